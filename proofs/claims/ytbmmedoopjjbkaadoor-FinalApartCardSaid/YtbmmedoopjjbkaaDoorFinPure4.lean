/- The verdicts about one matter alone. -/
import Derived.Test.YtbmmedoopjjbkaaDoorFinPure2
namespace Go.Proofs.YtbmmedoopjjbkaaDoor.Fin
open Go.RowKit Go.Proofs.YtbmmedoopjjbkaaDoor.H Go.Proofs.YtbmmedoopjjbkaaDoorW.PrintWords Go.Proofs.YtbmmedoopjjbkaaDoorW.PrintLast Go.Proofs.YtbmmedoopjjbkaaDoorW.PrintMore
set_option linter.unusedVariables false
set_option linter.unusedSimpArgs false

def flt (m : ByteArray) (L : List S32) : List S32 := L.filter fun v => decide (v.f1 = m)
theorem cur_flt (m : ByteArray) (L : List S32) (q : ByteArray) : cur (flt m L) m q = cur L m q := by
  unfold cur flt
  rw [List.filter_filter]
  congr 1
  apply List.filter_congr
  intro v _
  by_cases h : v.f1 = m <;> simp [h]
theorem acc_mono {L : List S32} (h : Acc L) : ∀ (d i : Nat) (hi : i + d < L.length), (L[i]'(by omega)).f4 ≤ (L[i + d]).f4 := by
  intro d
  induction d with
  | zero => intro i hi; exact Int.le_refl _
  | succ d ih =>
    intro i hi
    have h1 := ih i (by omega)
    have h2 := acc_days h (i + d) (by omega)
    have e : L[i + (d + 1)] = L[i + d + 1]'(by omega) := rfl
    rw [e]
    omega
theorem good_flt {m : ByteArray} {L : List S32} (h : Good L) : Good (flt m L) := ⟨fun v hv => h.1 v (List.mem_filter.1 hv).1, h.2.filter _⟩
theorem apart_dec {L : List S32} (ha : Acc L) {i : Nat} (hi : i < L.length) : dec (flt (L[i]).f1 (L.take i)) L[i] = 0 := by
  have h := ha i hi
  obtain ⟨h1, h2, h3⟩ := dec_zero h
  have k2 : hasId (flt (L[i]).f1 (L.take i)) (L[i]).f0 = false := by
    rcases hx : hasId (flt (L[i]).f1 (L.take i)) (L[i]).f0 with _ | _
    · rfl
    · exfalso
      obtain ⟨x, hx1, hx2⟩ := List.any_eq_true.1 hx
      have : hasId (L.take i) (L[i]).f0 = true := List.any_eq_true.2 ⟨x, (List.mem_filter.1 hx1).1, hx2⟩
      rw [h2] at this; cases this
  have k3 : late (flt (L[i]).f1 (L.take i)) L[i] = false := by
    unfold late
    rcases hx : (flt (L[i]).f1 (L.take i)).getLast? with _ | o
    · rfl
    · have := (List.mem_filter.1 (List.mem_of_getLast? hx)).1
      obtain ⟨k, hk, rfl⟩ := List.mem_iff_getElem.1 this
      rw [List.length_take] at hk
      rw [List.getElem_take]
      have := acc_mono ha (i - k) k (by omega)
      have e : L[k + (i - k)]'(by omega) = L[i] := by congr 1; omega
      rw [e] at this
      exact decide_eq_false (by omega)
  unfold dec at h ⊢
  rw [if_neg (by simp [h1]), if_neg (by simp [h2]), if_neg (by simp [h3])] at h
  rw [if_neg (by simp [h1]), if_neg (by simp [k2]), if_neg (by simp [k3]), cur_flt]
  exact h
theorem flt_hit {L : List S32} {m : ByteArray} (ha : Acc L) {i : Nat} (hi : i < L.length) (hm : ((rd_T32 L (i : Int)).f1.toList == m.toList) = true) : dec (flt m (L.take i)) (rd_T32 L (i : Int)) = 0 ∧ step (flt m (L.take i)) (rd_T32 L (i : Int)) = flt m (L.take (i + 1)) := by
  have h1 : (rd_T32 L (i : Int)).f1 = m := toList_inj (beq_iff_eq.1 hm)
  rw [rd_get L i hi] at h1 ⊢
  subst h1
  have hd := apart_dec ha hi
  refine ⟨hd, ?_⟩
  unfold step
  rw [if_pos hd, List.take_succ_eq_append_getElem hi]
  unfold flt
  rw [List.filter_append]
  simp
theorem flt_miss {L : List S32} {m : ByteArray} {i : Nat} (hi : i < L.length) (hm : ((rd_T32 L (i : Int)).f1.toList == m.toList) = false) : flt m (L.take (i + 1)) = flt m (L.take i) := by
  have h1 : (rd_T32 L (i : Int)).f1 ≠ m := fun e => beq_eq_false_iff_ne.1 hm (congrArg ByteArray.toList e)
  rw [rd_get L i hi] at h1
  rw [List.take_succ_eq_append_getElem hi]
  unfold flt
  rw [List.filter_append]
  simp [h1]
theorem flt_len (m : ByteArray) (L : List S32) (i : Nat) : (flt m (L.take i)).length ≤ L.length := by
  have h1 := List.length_filter_le (fun v : S32 => decide (v.f1 = m)) (L.take i)
  rw [List.length_take] at h1
  unfold flt
  omega
theorem flt_st {L : List S32} {m : ByteArray} (hg : Good L) {i : Nat} (hi : i < L.length) (hm : ((rd_T32 L (i : Int)).f1.toList == m.toList) = true) : st (flt m L) (rd_T32 L (i : Int)).f0 = st L (rd_T32 L (i : Int)).f0 := by
  have h1 : (rd_T32 L (i : Int)).f1 = m := toList_inj (beq_iff_eq.1 hm)
  rw [rd_get L i hi] at h1 ⊢
  have hmem : L[i] ∈ L := List.getElem_mem hi
  have hmf : L[i] ∈ flt m L := List.mem_filter.2 ⟨hmem, decide_eq_true h1⟩
  unfold st
  rw [find_id hg hmem, find_id (good_flt hg) hmf]
  simp only [h1, cur_flt]
end Go.Proofs.YtbmmedoopjjbkaaDoor.Fin
