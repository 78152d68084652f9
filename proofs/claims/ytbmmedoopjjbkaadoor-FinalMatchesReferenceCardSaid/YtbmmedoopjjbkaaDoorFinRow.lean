/- A slice of verdicts among the arguments, opened: the list that it holds. -/
import Derived.Test.YtbmmedoopjjbkaaDoorH0
import Derived.Deep.Slices
import Derived.ChangeArms
namespace Go.Proofs.YtbmmedoopjjbkaaDoor.Fin
open Go.RowKit Go.Deep Go.Proofs.YtbmmedoopjjbkaaDoor.H Go.Proofs.YtbmmedoopjjbkaaDoorW.PrintWords
set_option linter.unusedVariables false

theorem cells9 : Tryd.prog.cellsOf 9 = 1 := by kernel_rfl
theorem cells3 : Tryd.prog.cellsOf 3 = 1 := by kernel_rfl
theorem cells4 : Tryd.prog.cellsOf 4 = 1 := by kernel_rfl
theorem cells32 : Tryd.prog.cellsOf 32 = 7 := by kernel_rfl
def Fits (v : S32) : Prop := v.f0.size ≤ maxLen ∧ v.f1.size ≤ maxLen ∧ v.f2.size ≤ maxLen
section
variable {H : Type} {enc : TypeId × Value → H} {w : World} {base : Nat} {spare : Nat → Bool} {held : Bool}
set_option maxRecDepth 100000 in
theorem verdict_of {fuel : Nat} {cs : List Value} {x : DataW H × List MemPlace} (h : DataW.trod enc Tryd.prog w base spare held fuel 32 cs = some x) :
    ∃ v : S32, cs = [.string v.f0, .string v.f1, .string v.f2, .int .i64 v.f3, .int .i64 v.f4, .bool v.f5, .string v.f6] ∧ Fits v := by
  obtain ⟨xs, n, _, _, hl, hxl, hf⟩ := DataW.trod_struct Tryd.underlying32 h
  rw [cells32] at hl
  obtain ⟨u0, u1, u2, u3, u4, u5, u6, rfl⟩ : ∃ u0 u1 u2 u3 u4 u5 u6, cs = [u0, u1, u2, u3, u4, u5, u6] := by
    rcases cs with _ | ⟨u0, _ | ⟨u1, _ | ⟨u2, _ | ⟨u3, _ | ⟨u4, _ | ⟨u5, _ | ⟨u6, _ | ⟨u7, cs⟩⟩⟩⟩⟩⟩⟩⟩ <;> simp at hl
    exact ⟨u0, u1, u2, u3, u4, u5, u6, rfl⟩
  have get : ∀ i, i < 7 → ∃ y, xs[i]? = some y := fun i hi => ⟨_, List.getElem?_eq_getElem (by rw [hxl]; exact hi)⟩
  obtain ⟨y0, e0⟩ := get 0 (by omega)
  obtain ⟨y1, e1⟩ := get 1 (by omega)
  obtain ⟨y2, e2⟩ := get 2 (by omega)
  obtain ⟨y3, e3⟩ := get 3 (by omega)
  obtain ⟨y4, e4⟩ := get 4 (by omega)
  obtain ⟨y5, e5⟩ := get 5 (by omega)
  obtain ⟨y6, e6⟩ := get 6 (by omega)
  have g0 : DataW.trod enc Tryd.prog w base spare held n 9 [u0] = some y0 := by
    have : DataW.trod enc Tryd.prog w base spare held n 9 ((([u0, u1, u2, u3, u4, u5, u6] : List Value).drop 0).take (Tryd.prog.cellsOf 9)) = some y0 := (hf 0 _ rfl).trans e0
    rw [cells9] at this
    exact this
  have g1 : DataW.trod enc Tryd.prog w base spare held n 9 [u1] = some y1 := by
    have : DataW.trod enc Tryd.prog w base spare held n 9 ((([u0, u1, u2, u3, u4, u5, u6] : List Value).drop 1).take (Tryd.prog.cellsOf 9)) = some y1 := (hf 1 _ rfl).trans e1
    rw [cells9] at this
    exact this
  have g2 : DataW.trod enc Tryd.prog w base spare held n 9 [u2] = some y2 := by
    have : DataW.trod enc Tryd.prog w base spare held n 9 ((([u0, u1, u2, u3, u4, u5, u6] : List Value).drop 2).take (Tryd.prog.cellsOf 9)) = some y2 := (hf 2 _ rfl).trans e2
    rw [cells9] at this
    exact this
  have g3 : DataW.trod enc Tryd.prog w base spare held n 3 [u3] = some y3 := by
    have : DataW.trod enc Tryd.prog w base spare held n 3 ((([u0, u1, u2, u3, u4, u5, u6] : List Value).drop 3).take (Tryd.prog.cellsOf 3)) = some y3 := (hf 3 _ rfl).trans e3
    rw [cells3] at this
    exact this
  have g4 : DataW.trod enc Tryd.prog w base spare held n 3 [u4] = some y4 := by
    have : DataW.trod enc Tryd.prog w base spare held n 3 ((([u0, u1, u2, u3, u4, u5, u6] : List Value).drop 4).take (Tryd.prog.cellsOf 3)) = some y4 := (hf 4 _ rfl).trans e4
    rw [cells3] at this
    exact this
  have g5 : DataW.trod enc Tryd.prog w base spare held n 4 [u5] = some y5 := by
    have : DataW.trod enc Tryd.prog w base spare held n 4 ((([u0, u1, u2, u3, u4, u5, u6] : List Value).drop 5).take (Tryd.prog.cellsOf 4)) = some y5 := (hf 5 _ rfl).trans e5
    rw [cells4] at this
    exact this
  have g6 : DataW.trod enc Tryd.prog w base spare held n 9 [u6] = some y6 := by
    have : DataW.trod enc Tryd.prog w base spare held n 9 ((([u0, u1, u2, u3, u4, u5, u6] : List Value).drop 6).take (Tryd.prog.cellsOf 9)) = some y6 := (hf 6 _ rfl).trans e6
    rw [cells9] at this
    exact this
  obtain ⟨s0, h0, _, z0⟩ := DataW.trod_string Tryd.underlying9 g0
  obtain ⟨s1, h1, _, z1⟩ := DataW.trod_string Tryd.underlying9 g1
  obtain ⟨s2, h2, _, z2⟩ := DataW.trod_string Tryd.underlying9 g2
  obtain ⟨i3, h3, _, _⟩ := DataW.trod_int Tryd.underlying3 g3
  obtain ⟨i4, h4, _, _⟩ := DataW.trod_int Tryd.underlying3 g4
  obtain ⟨b5, h5, _⟩ := DataW.trod_bool Tryd.underlying4 g5
  obtain ⟨s6, h6, _, z6⟩ := DataW.trod_string Tryd.underlying9 g6
  simp only [List.cons.injEq, and_true] at h0 h1 h2 h3 h4 h5 h6
  subst h0 h1 h2 h3 h4 h5 h6
  exact ⟨⟨s0, s1, s2, i3, i4, b5, s6⟩, rfl, z0, z1, z2⟩
theorem verdicts_of {a : Option Addr} {len cap : Nat} {d : DataW H} {p : List MemPlace} (h : DataW.Trod enc Tryd.prog w base spare held 22 (.slice a len cap) d p) :
    ∃ l0 : List S32, l0.length = len ∧ Kd.C k32 w a l0.length l0 ∧ len ≤ cap ∧ ∀ v ∈ l0, Fits v := by
  obtain ⟨fuel, h⟩ := h
  rcases open_slice Tryd.underlying22 h with ⟨hcs, _⟩ | ⟨A, len', cap', m, n, D, Pl, hcs, hb, hl, hc, hm, hx, hel⟩
  · simp [Value.cells] at hcs
    obtain ⟨rfl, rfl, rfl⟩ := hcs
    exact ⟨[], rfl, ⟨rfl, by simp, fun h => absurd h (Nat.lt_irrefl 0)⟩, Nat.le_refl _, fun v hv => by simp at hv⟩
  · simp [Value.cells] at hcs
    obtain ⟨rfl, rfl, rfl⟩ := hcs
    have hlm : len ≤ m := by rw [hm]; split <;> omega
    have each : ∀ i, i < len → ∃ v : S32, (∀ j u, [Value.string v.f0, .string v.f1, .string v.f2, .int .i64 v.f3, .int .i64 v.f4, .bool v.f5, .string v.f6][j]? = some u → w.cell? (A.add (i * 7 + j)) = some u) ∧ Fits v := by
      intro i hi
      obtain ⟨cs', h1, h2⟩ := hel i (by omega)
      rw [cells32] at h1
      obtain ⟨_, hlen, hcell⟩ := World.cells?_some h1
      obtain ⟨v, rfl, hv⟩ := verdict_of h2
      refine ⟨v, fun j u hj => ?_, hv⟩
      have hj7 : j < 7 := by have := (List.getElem?_eq_some_iff.1 hj).1; simpa using this
      have := hcell j hj7
      rw [Go.Deep.add_add] at this
      rw [this]; exact hj
    haveI : Inhabited S32 := ⟨z32⟩
    obtain ⟨f, hf⟩ := choose_lt each
    refine ⟨(List.range len).map f, by simp, ⟨rfl, by simp only [List.length_map, List.length_range]; unfold maxLen at hc; omega, fun _ => ⟨A, rfl, fun j p hj => ?_⟩⟩, hl, fun v hv => ?_⟩
    · rw [List.getElem?_map] at hj
      obtain ⟨k, hk, rfl⟩ := Option.map_eq_some_iff.1 hj
      have hjl : j < len := by have := (List.getElem?_eq_some_iff.1 hk).1; simpa using this
      obtain rfl : k = j := by have := (List.getElem?_eq_some_iff.1 hk).2; simp at this; exact this.symm
      exact ⟨_, rfl, k32_mk w (f k), fun i u hu => (hf k hjl).1 i u hu⟩
    · obtain ⟨k, hk, rfl⟩ := List.mem_map.1 hv
      exact (hf k (List.mem_range.1 hk)).2
end
end Go.Proofs.YtbmmedoopjjbkaaDoor.Fin
