/- Which verdict reopens which; the verdicts about one matter alone. -/
import Derived.Test.YtbmmedoopjjbkaaDoorFinPure2
namespace Go.Proofs.YtbmmedoopjjbkaaDoor.Fin
open Go.RowKit Go.Proofs.YtbmmedoopjjbkaaDoor.H Go.Proofs.YtbmmedoopjjbkaaDoorW.PrintWords Go.Proofs.YtbmmedoopjjbkaaDoorW.PrintLast Go.Proofs.YtbmmedoopjjbkaaDoorW.PrintMore
set_option linter.unusedVariables false
set_option linter.unusedSimpArgs false

theorem cur_app_some {A M : List S32} {m q : ByteArray} {o : S32} (h : cur M m q = some o) : cur (A ++ M) m q = some o := by
  unfold cur at h ⊢
  rw [List.filter_append, List.getLast?_append, h]; rfl
theorem cur_app_none {A M : List S32} {m q : ByteArray} (h : ∀ v ∈ M, ¬ (v.f1 = m ∧ v.f2 = q)) : cur (A ++ M) m q = cur A m q := by
  unfold cur
  have : M.filter (fun v => decide (v.f1 = m ∧ v.f2 = q)) = [] := List.filter_eq_nil_iff.2 (fun v hv => by simpa using h v hv)
  rw [List.filter_append, this, List.append_nil]
/-- nx is the next place behind i, seen from k on, of the same question; or -1. -/
def Nx (L : List S32) (i k : Nat) (nx : Int) : Prop :=
  (nx = -1 ∧ ∀ j (h : j < L.length), k < j → ¬ ((L[j]).f1 = (rd_T32 L (i : Int)).f1 ∧ (L[j]).f2 = (rd_T32 L (i : Int)).f2)) ∨
  ∃ (j : Nat) (h : j < L.length), nx = (j : Int) ∧ k < j ∧ ((L[j]).f1 = (rd_T32 L (i : Int)).f1 ∧ (L[j]).f2 = (rd_T32 L (i : Int)).f2) ∧ ∀ j' (h : j' < L.length), k < j' → j' < j → ¬ ((L[j']).f1 = (rd_T32 L (i : Int)).f1 ∧ (L[j']).f2 = (rd_T32 L (i : Int)).f2)
theorem nx_start (L : List S32) (i k : Nat) (h : L.length ≤ k + 1) : Nx L i k (-1) := .inl ⟨rfl, fun j h1 h2 => by omega⟩
theorem nx_hit {L : List S32} {i k : Nat} (hk : k + 1 < L.length) (h1 : (rd_T32 L ((k + 1 : Nat) : Int)).f1 = (rd_T32 L (i : Int)).f1) (h2 : (rd_T32 L ((k + 1 : Nat) : Int)).f2 = (rd_T32 L (i : Int)).f2) : Nx L i k ((k + 1 : Nat) : Int) := by
  rw [rd_get L (k + 1) hk] at h1 h2
  exact .inr ⟨k + 1, hk, rfl, by omega, ⟨h1, h2⟩, fun j h h3 h4 => by omega⟩
theorem nx_miss {L : List S32} {i k : Nat} {nx : Int} (hk : k + 1 < L.length) (hm : ¬ ((rd_T32 L ((k + 1 : Nat) : Int)).f1 = (rd_T32 L (i : Int)).f1 ∧ (rd_T32 L ((k + 1 : Nat) : Int)).f2 = (rd_T32 L (i : Int)).f2)) (h : Nx L i (k + 1) nx) : Nx L i k nx := by
  rw [rd_get L (k + 1) hk] at hm
  have hx : ∀ j (h : j < L.length), k < j → j = k + 1 ∨ k + 1 < j := fun j h hj => by omega
  rcases h with ⟨e, h⟩ | ⟨j, hj, e, h1, h2, h3⟩
  · refine .inl ⟨e, fun j h1 h2 => ?_⟩
    rcases hx j h1 h2 with rfl | h4
    · exact hm
    · exact h j h1 h4
  · refine .inr ⟨j, hj, e, by omega, h2, fun j' h4 h5 h6 => ?_⟩
    rcases hx j' h4 h5 with rfl | h7
    · exact hm
    · exact h3 j' h4 h7 h6
theorem nx_hit' {L : List S32} {i k : Nat} (hk : k < L.length) (h0 : 0 < k) (h1 : ((rd_T32 L (k : Int)).f1.toList == (rd_T32 L (i : Int)).f1.toList) = true) (h2 : ((rd_T32 L (k : Int)).f2.toList == (rd_T32 L (i : Int)).f2.toList) = true) : Nx L i (k - 1) (k : Int) := by
  obtain ⟨m, rfl⟩ : ∃ m, k = m + 1 := ⟨k - 1, by omega⟩
  exact nx_hit hk (toList_inj (beq_iff_eq.1 h1)) (toList_inj (beq_iff_eq.1 h2))
theorem nx_miss1 {L : List S32} {i k : Nat} {nx : Int} (hk : k < L.length) (h0 : 0 < k) (h1 : ((rd_T32 L (k : Int)).f1.toList == (rd_T32 L (i : Int)).f1.toList) = false) (h : Nx L i k nx) : Nx L i (k - 1) nx := by
  obtain ⟨m, rfl⟩ : ∃ m, k = m + 1 := ⟨k - 1, by omega⟩
  exact nx_miss hk (fun e => beq_eq_false_iff_ne.1 h1 (congrArg ByteArray.toList e.1)) h
theorem nx_miss2 {L : List S32} {i k : Nat} {nx : Int} (hk : k < L.length) (h0 : 0 < k) (h1 : ((rd_T32 L (k : Int)).f2.toList == (rd_T32 L (i : Int)).f2.toList) = false) (h : Nx L i k nx) : Nx L i (k - 1) nx := by
  obtain ⟨m, rfl⟩ : ∃ m, k = m + 1 := ⟨k - 1, by omega⟩
  exact nx_miss hk (fun e => beq_eq_false_iff_ne.1 h1 (congrArg ByteArray.toList e.2)) h
theorem one_pure {L : List S32} (hg : Good L) (ha : Acc L) {i : Nat} (hi : i < L.length) {nx : Int} (h : Nx L i i nx) :
    (nx = -1 ∧ st L (rd_T32 L (i : Int)).f0 = true ∧ val L (rd_T32 L (i : Int)).f1 (rd_T32 L (i : Int)).f2 = ((rd_T32 L (i : Int)).f3, true)) ∨
    ∃ (j : Nat) (nv : Int), nx = (j : Int) ∧ i < j ∧ j < L.length ∧ st L (rd_T32 L (i : Int)).f0 = false ∧ (rd_T32 L (j : Int)).f6.toList = (rd_T32 L (i : Int)).f0.toList ∧ (rd_T32 L (i : Int)).f5 = false ∧ val L (rd_T32 L (i : Int)).f1 (rd_T32 L (i : Int)).f2 = (nv, true) := by
  have er := rd_get L i hi
  rw [er]
  have hmem : L[i] ∈ L := List.getElem_mem hi
  have e1 : L.take (i + 1) = L.take i ++ [L[i]] := List.take_succ_eq_append_getElem hi
  have c1 : cur (L.take (i + 1)) (L[i]).f1 (L[i]).f2 = some L[i] := by rw [e1, cur_snoc, if_pos ⟨rfl, rfl⟩]
  unfold Nx at h
  rw [er] at h
  rcases h with ⟨e, h⟩ | ⟨j, hj, e, h1, h2, h3⟩
  · have hc : cur L (L[i]).f1 (L[i]).f2 = some L[i] := by
      have := cur_app_none (A := L.take (i + 1)) (M := L.drop (i + 1)) (m := (L[i]).f1) (q := (L[i]).f2) (fun v hv => by
        obtain ⟨k, hk, rfl⟩ := List.mem_iff_getElem.1 hv
        rw [List.length_drop] at hk
        rw [List.getElem_drop]
        exact h (i + 1 + k) (by omega) (by omega))
      rw [List.take_append_drop] at this
      rw [this, c1]
    refine .inl ⟨e, st_cur hg hmem hc, by unfold val; rw [hc]⟩
  · have hct : cur (L.take j) (L[i]).f1 (L[i]).f2 = some L[i] := by
      have := cur_app_none (A := L.take (i + 1)) (M := (L.take j).drop (i + 1)) (m := (L[i]).f1) (q := (L[i]).f2) (fun v hv => by
        obtain ⟨k, hk, rfl⟩ := List.mem_iff_getElem.1 hv
        rw [List.length_drop, List.length_take] at hk
        rw [List.getElem_drop, List.getElem_take]
        exact h3 (i + 1 + k) (by omega) (by omega) (by omega))
      have e2 : L.take (i + 1) = (L.take j).take (i + 1) := by rw [List.take_take, Nat.min_eq_left (by omega)]
      rw [e2, List.take_append_drop, ← e2] at this
      rw [this, c1]
    have hd := ha j hj
    have := dec_cur hd (by rw [h2.1, h2.2]; exact hct)
    have hx : L[j] ∈ L.drop j := by rw [List.mem_iff_getElem]; exact ⟨0, by rw [List.length_drop]; omega, by rw [List.getElem_drop]; rfl⟩
    obtain ⟨o, ho⟩ := cur_some hx
    rw [h2.1, h2.2] at ho
    have hc : cur L (L[i]).f1 (L[i]).f2 = some o := by
      have := cur_app_some (A := L.take j) ho
      rwa [List.take_append_drop] at this
    have hne : L[i].f0 ≠ o.f0 := by
      have hp := hg.2
      rw [← List.take_append_drop j L, List.pairwise_append] at hp
      refine hp.2.2 _ ?_ _ (cur_mem ho).1
      rw [List.mem_iff_getElem]
      exact ⟨i, by rw [List.length_take]; omega, by rw [List.getElem_take]⟩
    refine .inr ⟨j, o.f3, e, h1, hj, ?_, by rw [rd_get L j hj]; exact this.1.symm, this.2, by unfold val; rw [hc]⟩
    unfold st
    rw [find_id hg hmem]
    simp only [hc]
    exact beq_eq_false_iff_ne.2 (fun e => hne (toList_inj e.symm))
end Go.Proofs.YtbmmedoopjjbkaaDoor.Fin
