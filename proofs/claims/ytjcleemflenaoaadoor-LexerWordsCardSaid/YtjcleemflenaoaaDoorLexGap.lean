/- The reference's gaps, as the print tells them: a text of gaps is one without tokens and errors. -/
import Derived.Test.YtjcleemflenaoaaDoorLexPure3
import Derived.Test.YtjcleemflenaoaaDoorLexIter
import Derived.Test.YtjcleemflenaoaaDoorH10
namespace Go.Proofs.YtjcleemflenaoaaDoor.LexGap
open Go.RowKit Go.Proofs.YtjcleemflenaoaaDoor.H Go.Proofs.YtjcleemflenaoaaDoorW.PrintWords Go.Proofs.YtjcleemflenaoaaDoorW.PrintLast

theorem wrap_id {x : Int} (h0 : -9223372036854775808 ≤ x) (h1 : x ≤ 9223372036854775807) : wrap64 x = x := by
  unfold wrap64
  omega
theorem bt_here {s : ByteArray} {i : Nat} (h : i < s.size) : bt s (i : Int) = ((s[i]'h).toNat : Int) := by
  unfold bt
  simp [h]
theorem has3 (c : Int) (k : Nat) : pandectref05_has.f (k + 4) (⟨#[32, 9, 10]⟩ : ByteArray) c = some (decide (c = 32 ∨ c = 9 ∨ c = 10)) := by
  have b0 : bt (⟨#[32, 9, 10]⟩ : ByteArray) 0 = 32 := rfl
  have b1 : bt (⟨#[32, 9, 10]⟩ : ByteArray) 1 = 9 := rfl
  have b2 : bt (⟨#[32, 9, 10]⟩ : ByteArray) 2 = 10 := rfl
  have w1 : wrap64 (0 + 1) = 1 := (wrap_id (by omega) (by omega)).trans (by decide)
  have w2 : wrap64 (1 + 1) = 2 := (wrap_id (by omega) (by omega)).trans (by decide)
  have w3 : wrap64 (2 + 1) = 3 := (wrap_id (by omega) (by omega)).trans (by decide)
  have z : ((⟨#[32, 9, 10]⟩ : ByteArray).size : Int) = 3 := rfl
  unfold pandectref05_has.f
  simp only [pandectref05_has.l0, z, w1, w2, w3, b0, b1, b2]
  by_cases h0 : c = 32
  · subst h0; simp
  · by_cases h1 : c = 9
    · subst h1; simp
    · by_cases h2 : c = 10
      · subst h2; simp
      · have e0 : ¬ (32 = c) := fun h => h0 h.symm
        have e1 : ¬ (9 = c) := fun h => h1 h.symm
        have e2 : ¬ (10 = c) := fun h => h2 h.symm
        simp [h0, h1, h2, e0, e1, e2]
theorem cls_blank (y : UInt8) : Lex.cls y = 1 ↔ ((y.toNat : Int) = 32 ∨ (y.toNat : Int) = 9 ∨ (y.toNat : Int) = 10) := by
  have h : ∀ n : Fin 256, (Lex.clsN n.val = 1 ↔ (n.val = 32 ∨ n.val = 9 ∨ n.val = 10)) := by decide +kernel
  have := h ⟨y.toNat, y.toNat_lt⟩
  unfold Lex.cls
  simp only at this
  rw [this]; omega
theorem cls_hash (y : UInt8) : Lex.cls y = 2 ↔ (y.toNat : Int) = 35 := by
  have h : ∀ n : Fin 256, (Lex.clsN n.val = 2 ↔ n.val = 35) := by decide +kernel
  have := h ⟨y.toNat, y.toNat_lt⟩
  unfold Lex.cls
  simp only at this
  rw [this]; omega
theorem notNl_iff (y : UInt8) : Lex.notNl y = true ↔ ¬ (y.toNat : Int) = 10 := by
  unfold Lex.notNl
  rw [Bool.not_eq_true', beq_eq_false_iff_ne]
  constructor
  · intro h h2; exact h (UInt8.toNat_inj.1 (by show y.toNat = 10; omega))
  · rintro h rfl; exact h rfl

/-- A list of gaps. -/
def E (l : List UInt8) : Prop := Lex.lx 0 l = []
theorem E_iff (p : Nat) (l : List UInt8) : Lex.lx p l = [] ↔ E l := by
  unfold E
  rw [Lex.lx_zero p l, List.map_eq_nil_iff]
theorem E_nil : E [] := rfl
theorem E_blank {b : UInt8} {t : List UInt8} (h : Lex.cls b = 1) : E (b :: t) ↔ E t := by
  unfold E; rw [Lex.lx_blank h]; exact E_iff _ _
theorem E_hash {b : UInt8} {t : List UInt8} (h : Lex.cls b = 2) : E (b :: t) ↔ E (t.dropWhile Lex.notNl) := by
  unfold E; rw [Lex.lx_hash h]; exact E_iff _ _
theorem E_tok {b : UInt8} {t : List UInt8} (h1 : Lex.cls b ≠ 1) (h2 : Lex.cls b ≠ 2) : ¬ E (b :: t) := by
  unfold E; rw [Lex.lx_tok h1 h2]; simp

def P (s : ByteArray) (l : List UInt8) (o : Option Int) : Prop := ∃ j : Int, o = some j ∧ 0 ≤ j ∧ j ≤ s.size ∧ (j = s.size ↔ E l)

theorem gap_spec (s : ByteArray) (hs : s.size ≤ 1000000) : ∀ (d i : Nat), s.size - i = d → i ≤ s.size →
    (∀ k, 3 * d + 7 ≤ k → P s (s.data.toList.drop i) (pandectref05_gap.l0 k s (i : Int))) ∧ (∀ k, 3 * d + 8 ≤ k → P s ((s.data.toList.drop i).dropWhile Lex.notNl) (pandectref05_gap.l1 k s (i : Int))) := by
  have hsn : s.data.toList.length = s.size := Array.length_toList
  intro d
  induction d with
  | zero =>
    intro i hd hi
    have hnil : s.data.toList.drop i = [] := List.drop_eq_nil_of_le (by omega)
    have h0 : ∀ k, 1 ≤ k → pandectref05_gap.l0 k s (i : Int) = some (s.size : Int) := by
      intro k hk
      obtain ⟨k, rfl⟩ : ∃ m, k = m + 1 := ⟨k - 1, by omega⟩
      simp only [pandectref05_gap.l0]
      rw [if_neg (by omega), show i = s.size by omega]
    refine ⟨fun k hk => ⟨_, h0 k (by omega), by omega, by omega, by rw [hnil]; exact ⟨fun _ => E_nil, fun _ => rfl⟩⟩, fun k hk => ?_⟩
    obtain ⟨k, rfl⟩ : ∃ m, k = m + 1 := ⟨k - 1, by omega⟩
    refine ⟨s.size, ?_, by omega, by omega, by rw [hnil]; exact ⟨fun _ => E_nil, fun _ => rfl⟩⟩
    simp only [pandectref05_gap.l1]
    rw [if_neg (by omega)]
    exact h0 k (by omega)
  | succ d ih =>
    intro i hd hi
    have hlt : i < s.size := by omega
    obtain ⟨i0, i1⟩ := ih (i + 1) (by omega) (by omega)
    have hdr := Lex.drop_here hlt
    have hw : wrap64 ((i : Int) + 1) = ((i + 1 : Nat) : Int) := wrap_id (by omega) (by omega)
    have g0 : ∀ k, 3 * (d + 1) + 7 ≤ k → P s (s.data.toList.drop i) (pandectref05_gap.l0 k s (i : Int)) := by
      intro k hk
      obtain ⟨k, rfl⟩ : ∃ m, k = m + 5 := ⟨k - 5, by omega⟩
      rw [show k + 5 = (k + 4) + 1 from rfl]
      simp only [pandectref05_gap.l0]
      rw [if_pos (by omega), if_pos (by omega), bt_here hlt, has3, hdr]
      simp only [Option.bind_some]
      by_cases hb : Lex.cls (s[i]'hlt) = 1
      · rw [decide_eq_true ((cls_blank _).1 hb), if_pos rfl, hw]
        obtain ⟨j, e, j0, j1, j2⟩ := i0 (k + 4) (by omega)
        exact ⟨j, e, j0, j1, j2.trans (E_blank hb).symm⟩
      · rw [decide_eq_false (fun h => hb ((cls_blank _).2 h)), if_neg (by simp)]
        by_cases hh : Lex.cls (s[i]'hlt) = 2
        · rw [if_pos ((cls_hash _).1 hh), show k + 4 = (k + 3) + 1 from rfl]
          simp only [pandectref05_gap.l1]
          have h35 := (cls_hash _).1 hh
          rw [if_pos (by omega), if_pos (by omega), bt_here hlt, if_neg (by omega), hw]
          obtain ⟨j, e, j0, j1, j2⟩ := i1 (k + 3) (by omega)
          exact ⟨j, e, j0, j1, j2.trans (E_hash hh).symm⟩
        · rw [if_neg (fun h => hh ((cls_hash _).2 h))]
          exact ⟨i, rfl, by omega, by omega, ⟨fun h => by omega, fun h => absurd h (E_tok hb hh)⟩⟩
    refine ⟨g0, fun k hk => ?_⟩
    obtain ⟨k, rfl⟩ : ∃ m, k = m + 1 := ⟨k - 1, by omega⟩
    simp only [pandectref05_gap.l1]
    rw [if_pos (by omega), if_pos (by omega), bt_here hlt]
    by_cases h10 : ((s[i]'hlt).toNat : Int) = 10
    · rw [if_pos h10]
      have hn : Lex.notNl (s[i]'hlt) = false := by
        rcases hq : Lex.notNl (s[i]'hlt) with _ | _
        · rfl
        · exact absurd h10 ((notNl_iff _).1 hq)
      have e : (s.data.toList.drop i).dropWhile Lex.notNl = s.data.toList.drop i := by rw [hdr, List.dropWhile_cons, if_neg (by simp [hn])]
      rw [e]
      exact g0 k (by omega)
    · rw [if_neg h10, hw, hdr, List.dropWhile_cons, if_pos ((notNl_iff _).2 h10)]
      exact i1 k (by omega)

theorem gaps_f (s : ByteArray) (hs : s.size ≤ 1000000) (k : Nat) (hk : 3 * s.size + 7 ≤ k) : ∃ b, pandectref05_Gaps.f k s = some b ∧ (b = true ↔ Lex.lx 0 s.data.toList = []) := by
  obtain ⟨j, e, j0, j1, j2⟩ := (gap_spec s hs s.size 0 (by omega) (by omega)).1 k hk
  rw [List.drop_zero] at j2
  refine ⟨j == (s.size : Int), ?_, by rw [beq_iff_eq]; exact j2⟩
  unfold pandectref05_Gaps.f pandectref05_gap.f
  have e' : pandectref05_gap.l0 k s 0 = some j := e
  rw [e']; rfl
end Go.Proofs.YtjcleemflenaoaaDoor.LexGap
