/- A register over a run of calls: its memory since a world, and all else as it was. -/
import Derived.Test.YtbmmedoopjjbkaaDoorFinDec
namespace Go.Proofs.YtbmmedoopjjbkaaDoor.Fin
open Go.RowKit Go.Proofs.YtbmmedoopjjbkaaDoor.H Go.Proofs.YtbmmedoopjjbkaaDoorW.PrintWords Go.Proofs.YtbmmedoopjjbkaaDoorW.PrintLast Go.Proofs.YtbmmedoopjjbkaaDoorW.PrintMore
set_option linter.unusedVariables false

/-- Since the world wS, in which F0 were the register's blocks: only these, and new ones, have turned. -/
def Inv (wS : World) (F0 : Nat → Prop) (w : World) (b : Nat) (L : List S32) : Prop := ∃ F, RegF w F b L ∧ (∀ k, F k → F0 k ∨ wS.heap.size ≤ k) ∧ KeepF F0 wS w
def no (_ : Nat) : Prop := False
theorem KeepF.trans {F0 F : Nat → Prop} {wS w w' : World} (h : KeepF F0 wS w) (hF : ∀ k, F k → F0 k ∨ wS.heap.size ≤ k) (k : KeepF F w w') : KeepF F0 wS w' :=
  ⟨h.1.trans k.1, fun j hj h0 => (k.2 j (Nat.lt_of_lt_of_le hj h.1.size) (fun hf => by rcases hF j hf with h1 | h1; exact h0 h1; omega)).trans (h.2 j hj h0)⟩
theorem keep_no {w0 w : World} (h : KeepF no w0 w) : Below w0.heap.size w0 w := ⟨h.1.os, h.1.tape, h.1.output, h.1.size, fun k hk => h.2 k hk (fun h => h)⟩
theorem Inv.size {wS w : World} {F0 : Nat → Prop} {b : Nat} {L : List S32} (h : Inv wS F0 w b L) : wS.heap.size ≤ w.heap.size := by obtain ⟨_, _, _, h⟩ := h; exact h.1.size
theorem Inv.keep {wS w : World} {F0 : Nat → Prop} {b : Nat} {L : List S32} (h : Inv wS F0 w b L) : KeepF F0 wS w := by obtain ⟨_, _, _, h⟩ := h; exact h
theorem Inv.good {wS w : World} {F0 : Nat → Prop} {b : Nat} {L : List S32} (h : Inv wS F0 w b L) : Good L := by obtain ⟨_, h, _⟩ := h; exact h.good
theorem Inv.b0 {w0 w : World} {b : Nat} {L : List S32} (h : Inv w0 no w b L) : Below w0.heap.size w0 w := keep_no h.keep
theorem Inv.below {wS w w' : World} {F0 : Nat → Prop} {b : Nat} {L : List S32} (h : Inv wS F0 w b L) (hb : Below w.heap.size w w') : Inv wS F0 w' b L := by
  obtain ⟨F, h1, h2, h3⟩ := h
  exact ⟨F, h1.below hb, h2, h3.trans h2 (KeepF.of_below hb)⟩
theorem Inv.snap {wS w : World} {F0 : Nat → Prop} {b : Nat} {L : List S32} (h : Inv wS F0 w b L) : ∃ F, Inv w F w b L ∧ (∀ k, F k → F0 k ∨ wS.heap.size ≤ k) ∧ (∀ k, F k → k < w.heap.size) := by
  obtain ⟨F, h1, h2, h3⟩ := h
  refine ⟨F, ⟨F, h1, fun k hk => .inl hk, ⟨Below.refl _ _, fun _ _ _ => rfl⟩⟩, h2, ?_⟩
  obtain ⟨_, _, _, _, _, _, _, _, h⟩ := h1
  exact h.lt
theorem inv_new (w : World) : Calls Tryd.prog 11 #[] w fun e w' => ∃ b, e = .returned (.pointer (some ⟨b, 0, none⟩)) ∧ Inv w no w' b [] ∧ w.heap.size ≤ b := by
  refine (new_calls w).mono ?_
  rintro e w' ⟨b, rfl, hr, hb, hl⟩
  exact ⟨b, rfl, ⟨_, hr, fun k hk => by rcases hk with hk | hk; exact hk.elim; exact .inr hk.1, KeepF.of_below hb⟩, hl⟩
theorem inv_decide {wS w : World} {F0 : Nat → Prop} {b : Nat} {L : List S32} (v : S32) (h : Inv wS F0 w b L) (hn : L.length ≤ 1000000) :
    Calls Tryd.prog 13 #[.pointer (some ⟨b, 0, none⟩), .agg (vcells v)] w fun e w' => e = .returned (.int .i64 (dec L v)) ∧ Inv wS F0 w' b (step L v) := by
  obtain ⟨F, h1, h2, h3⟩ := h
  refine (decide_calls w F b L v h1 hn).mono ?_
  rintro e w' ⟨rfl, hr, hk⟩
  exact ⟨rfl, _, hr, fun k hk => by rcases hk with hk | hk; exact h2 k hk; exact .inr (Nat.le_trans h3.1.size hk.1), h3.trans h2 hk⟩
theorem inv_value {wS w : World} {F0 : Nat → Prop} {b : Nat} {L : List S32} (m q : ByteArray) (h : Inv wS F0 w b L) (hm : m.size ≤ maxLen) (hq : q.size ≤ maxLen) :
    Calls Tryd.prog 17 #[.pointer (some ⟨b, 0, none⟩), .string m, .string q] w fun e w' => e = .returned (.tuple #[.int .i64 (val L m q).1, .bool (val L m q).2]) ∧ w' = w := by
  obtain ⟨F, h1, h2, h3⟩ := h
  exact value_calls w F b L m q h1 hm hq
theorem inv_stands {wS w : World} {F0 : Nat → Prop} {b : Nat} {L : List S32} (id : ByteArray) (h : Inv wS F0 w b L) (hid : id.size ≤ maxLen) :
    Calls Tryd.prog 15 #[.pointer (some ⟨b, 0, none⟩), .string id] w fun e w' => e = .returned (.bool (st L id)) ∧ Below w.heap.size w w' := by
  obtain ⟨F, h1, h2, h3⟩ := h
  exact stands_calls w F b L id h1 hid
theorem inv_list {wS w : World} {F0 : Nat → Prop} {b : Nat} {L : List S32} (h : Inv wS F0 w b L) (hn : L.length ≤ 1000000) :
    Calls Tryd.prog 20 #[.pointer (some ⟨b, 0, none⟩)] w fun e w' => ∃ v, e = .returned v ∧ w'.ownsRow w.heap.size 32 7 v L.length (cellsL L) ∧ Below w.heap.size w w' := by
  obtain ⟨F, h1, h2, h3⟩ := h
  exact list_calls w F b L h1 hn
/-- A slice of verdicts that was handed out, read. -/
theorem C_of_cells {w : World} {base : Nat} {A : Option Addr} {n c : Nat} {L : List S32} (h : w.ownsRow base 32 7 (.slice A n c) n (cellsL L)) (hn : n = L.length) (hm : n ≤ 1000000) : Kd.C k32 w A L.length L := by
  subst hn
  refine ⟨rfl, by omega, fun h0 => ?_⟩
  have hw := h
  obtain ⟨hl, ⟨hn, h0'⟩ | ⟨g, cap, cur, he, hg, hh, r⟩⟩ := hw
  · omega
  · injection he with e1 e2 e3
    subst e1
    subst e3
    refine ⟨_, rfl, fun j p hj => ⟨[.string p.f0, .string p.f1, .string p.f2, .int .i64 p.f3, .int .i64 p.f4, .bool p.f5, .string p.f6], rfl, k32_mk w p, fun i u hu => ?_⟩⟩
    have hjl : j < L.length := (List.getElem?_eq_some_iff.1 hj).1
    have hi : i < 7 := by have := (List.getElem?_eq_some_iff.1 hu).1; simpa using this
    have e : (⟨g, 0, none⟩ : Addr).add (j * k32.sz + i) = ⟨g, j * 7 + i, none⟩ := by
      show (⟨g, 0, none⟩ : Addr).add (j * 7 + i) = _
      unfold Addr.add; split <;> simp_all
    rw [e, h.cellAt (j * 7 + i) (by omega), cellsL_get L j i p hj hi]
    exact hu
end Go.Proofs.YtbmmedoopjjbkaaDoor.Fin
