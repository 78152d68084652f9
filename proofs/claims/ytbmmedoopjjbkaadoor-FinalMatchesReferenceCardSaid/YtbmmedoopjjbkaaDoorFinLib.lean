/- Few and Same, and the laws of accepted lists. -/
import Derived.Test.YtbmmedoopjjbkaaDoorFinDecided
import Derived.Test.YtbmmedoopjjbkaaDoorH2
import Derived.Test.YtbmmedoopjjbkaaDoorH3
namespace Go.Proofs.YtbmmedoopjjbkaaDoor.Fin
open Go.RowKit Go.Proofs.YtbmmedoopjjbkaaDoor.H Go.Proofs.YtbmmedoopjjbkaaDoorW.PrintWords Go.Proofs.YtbmmedoopjjbkaaDoorW.PrintLast Go.Proofs.YtbmmedoopjjbkaaDoorW.PrintMore
set_option linter.unusedVariables false

theorem wrap_id {x : Int} (h0 : -9223372036854775808 ≤ x) (h1 : x ≤ 9223372036854775807) : wrap64 x = x := by
  unfold wrap64
  omega
theorem drawn_below {w w' : World} (h : Drawn0 w w') : Below w.heap.size w w' := by
  obtain ⟨n, rfl⟩ := h
  exact pw_below_drewN (Below.refl _ _) n
theorem few_loop (l : List S32) (N : Nat) (hl : l.length ≤ 9223372036854775807) : ∀ (d i k : Nat), l.length - i = d → i ≤ l.length → d < k → ∃ r, pandectref28_Few.l0 k l (N : Int) (i : Int) = some r ∧ (r = true → l.length ≤ N) := by
  intro d
  induction d with
  | zero =>
    intro i k hd hi hk
    obtain ⟨k, rfl⟩ : ∃ m, k = m + 1 := ⟨k - 1, by omega⟩
    refine ⟨_, by rw [pandectref28_Few.l0, if_neg (by omega)], fun h => ?_⟩
    have := of_decide_eq_true h
    omega
  | succ d ih =>
    intro i k hd hi hk
    obtain ⟨k, rfl⟩ : ∃ m, k = m + 1 := ⟨k - 1, by omega⟩
    rw [pandectref28_Few.l0, if_pos (by omega), if_pos (by omega)]
    split
    · exact ⟨false, rfl, fun h => by cases h⟩
    · rw [wrap_id (by omega) (by omega)]
      exact ih (i + 1) k (by omega) (by omega) (by omega)
theorem few_calls (A0 : Option Addr) (c0 : Nat) (l0 : List S32) (N : Nat) (w : World) (hr0 : Kd.C k32 w A0 l0.length l0) (hc0 : l0.length ≤ c0) :
    ∃ r : Bool, (r = true → l0.length ≤ N) ∧ ∀ W : World, Kd.C k32 W A0 l0.length l0 → Calls Tryd.prog 10 #[.slice A0 l0.length c0, .int .i64 (N : Int)] W fun e w' => e = .returned (.bool r) ∧ Below W.heap.size W w' := by
  obtain ⟨r, h1, h2⟩ := few_loop l0 N (by have := hr0.2.1; omega) l0.length 0 (l0.length + 1) (by omega) (by omega) (by omega)
  refine ⟨r, h2, fun W hW => (pandectref28_Few.calls (l0.length + 1) A0 c0 l0 (N : Int) r W hW hc0 h1).mono ?_⟩
  rintro e w' ⟨rfl, hd⟩
  exact ⟨rfl, drawn_below hd⟩
theorem same_loop (l : List S32) (hl : l.length ≤ 9223372036854775807) : ∀ (d i k : Nat), l.length - i = d → i ≤ l.length → d < k → pandectref28_Same.l0 k l l (i : Int) = some true := by
  intro d
  induction d with
  | zero =>
    intro i k hd hi hk
    obtain ⟨k, rfl⟩ : ∃ m, k = m + 1 := ⟨k - 1, by omega⟩
    rw [pandectref28_Same.l0, if_neg (by omega)]
  | succ d ih =>
    intro i k hd hi hk
    obtain ⟨k, rfl⟩ : ∃ m, k = m + 1 := ⟨k - 1, by omega⟩
    rw [pandectref28_Same.l0, if_pos (by omega), if_pos (by omega), if_pos (by omega), if_neg (by simp only [beq_self_eq_true, Bool.not_true, Bool.or_self]; decide), wrap_id (by omega) (by omega)]
    exact ih (i + 1) k (by omega) (by omega) (by omega)
theorem same_calls (A0 A1 : Option Addr) (c0 c1 : Nat) (l : List S32) (w : World) (hr0 : Kd.C k32 w A0 l.length l) (hc0 : l.length ≤ c0) (hr1 : Kd.C k32 w A1 l.length l) (hc1 : l.length ≤ c1) :
    Calls Tryd.prog 19 #[.slice A0 l.length c0, .slice A1 l.length c1] w fun e w' => e = .returned (.bool true) ∧ Below w.heap.size w w' := by
  refine (pandectref28_Same.calls (l.length + 1) A0 c0 l A1 c1 l true w hr0 hc0 hr1 hc1 ?_).mono ?_
  · rw [pandectref28_Same.f, if_pos rfl]
    exact same_loop l (by have := hr0.2.1; omega) l.length 0 _ (by omega) (by omega) (by omega)
  · rintro e w' ⟨rfl, hd⟩
    exact ⟨rfl, drawn_below hd⟩
theorem own_cap {W : World} {base : Nat} {e : TypeId} {size : Nat} {A : Option Addr} {n c : Nat} {xs : List Value} (h : W.ownsRow base e size (.slice A n c) n xs) : n ≤ c := by
  rcases h.2 with ⟨he, h0⟩ | ⟨g, cap, cur, he, hg, hh, hc, r⟩
  · omega
  · injection he with e1 e2 e3; omega

/-! ### accepted lists -/
/-- Each verdict would be accepted behind those before it. -/
def Acc (L : List S32) : Prop := ∀ i (h : i < L.length), dec (L.take i) L[i] = 0
theorem acc_nil : Acc [] := fun i h => by simp at h
theorem acc_step {L : List S32} (h : Acc L) (v : S32) : Acc (step L v) := by
  unfold step
  by_cases hd : dec L v = 0
  · rw [if_pos hd]
    intro i hi
    rw [List.length_append] at hi
    simp only [List.length_cons, List.length_nil] at hi
    by_cases hlt : i < L.length
    · rw [List.take_append_of_le_length (by omega), List.getElem_append_left hlt]
      exact h i hlt
    · have e : i = L.length := by omega
      subst e
      rw [List.take_append_of_le_length (Nat.le_refl _), List.take_length, List.getElem_append_right (Nat.le_refl _)]
      simpa using hd
  · rw [if_neg hd]; exact h
theorem acc_fold : ∀ (l acc : List S32), Acc acc → Acc (l.foldl step acc)
  | [], acc, h => h
  | v :: l, acc, h => acc_fold l _ (acc_step h v)
theorem acc_dec (l : List S32) : Acc (decL l) := acc_fold l [] acc_nil
theorem good_fold : ∀ (l acc : List S32), Good acc → Good (l.foldl step acc)
  | [], acc, h => h
  | v :: l, acc, h => good_fold l _ (good_step h v)
theorem good_dec (l : List S32) : Good (decL l) := good_fold l [] good_nil
theorem acc_fold_take {L : List S32} (h : Acc L) : ∀ i, i ≤ L.length → (L.take i).foldl step [] = L.take i
  | 0, _ => by simp
  | i + 1, hi => by
    have h1 := acc_fold_take h i (by omega)
    rw [fold_take L [] i (by omega), h1, rd_get L i (by omega)]
    unfold step
    rw [if_pos (h i (by omega)), ← List.take_succ_eq_append_getElem]
theorem dec_zero {L : List S32} {v : S32} (h : dec L v = 0) : vd v = true ∧ hasId L v.f0 = false ∧ late L v = false := by
  unfold dec at h
  rcases hv : vd v with _ | _
  · rw [if_pos hv] at h; exact absurd h (by decide)
  · rw [if_neg (by simp [hv])] at h
    rcases hi : hasId L v.f0 with _ | _
    · rw [if_neg (by simp [hi])] at h
      rcases hl : late L v with _ | _
      · exact ⟨rfl, rfl, rfl⟩
      · rw [if_pos hl] at h; exact absurd h (by decide)
    · rw [if_pos hi] at h; exact absurd h (by decide)
/-- Days don't go back. -/
theorem acc_days {L : List S32} (h : Acc L) (i : Nat) (hi : i + 1 < L.length) : ¬ (L[i + 1]).f4 < (L[i]).f4 := by
  have := (dec_zero (h (i + 1) hi)).2.2
  unfold late at this
  have e : (L.take (i + 1)).getLast? = some L[i] := by
    have := List.take_succ_eq_append_getElem (show i < L.length by omega)
    rw [this, List.getLast?_append, List.getLast?_singleton]; rfl
  rw [e] at this
  exact of_decide_eq_false this
end Go.Proofs.YtbmmedoopjjbkaaDoor.Fin
