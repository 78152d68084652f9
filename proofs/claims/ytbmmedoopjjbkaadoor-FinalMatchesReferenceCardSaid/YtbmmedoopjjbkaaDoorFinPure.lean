/- The register of verdicts as a plain list: what stands, what Decide answers. -/
import Derived.Test.YtbmmedoopjjbkaaDoorFinValid
namespace Go.Proofs.YtbmmedoopjjbkaaDoor.Fin
open Go.RowKit Go.Proofs.YtbmmedoopjjbkaaDoor.H Go.Proofs.YtbmmedoopjjbkaaDoorW.PrintWords Go.Proofs.YtbmmedoopjjbkaaDoorW.PrintLast
set_option linter.unusedVariables false

instance : DecidableEq S32 := fun a b => by
  cases a; cases b
  simp only [S32.mk.injEq]
  exact inferInstance

/-- The verdict that stands for a question of a matter. -/
def cur (L : List S32) (m q : ByteArray) : Option S32 := (L.filter fun v => decide (v.f1 = m ∧ v.f2 = q)).getLast?
theorem cur_nil (m q : ByteArray) : cur [] m q = none := rfl
theorem cur_snoc (L : List S32) (v : S32) (m q : ByteArray) : cur (L ++ [v]) m q = if v.f1 = m ∧ v.f2 = q then some v else cur L m q := by
  unfold cur
  rw [List.filter_append]
  by_cases h : v.f1 = m ∧ v.f2 = q
  · rw [if_pos h]; simp [h]
  · rw [if_neg h]
    have : [v].filter (fun v => decide (v.f1 = m ∧ v.f2 = q)) = [] := by simp [h]
    rw [this, List.append_nil]
theorem cur_mem {L : List S32} {m q : ByteArray} {v : S32} (h : cur L m q = some v) : v ∈ L ∧ v.f1 = m ∧ v.f2 = q := by
  unfold cur at h
  have := List.mem_of_getLast? h
  rw [List.mem_filter] at this
  exact ⟨this.1, by simpa using this.2⟩
def hasId (L : List S32) (id : ByteArray) : Bool := L.any fun x => decide (x.f0 = id)
def late (L : List S32) (v : S32) : Bool := match L.getLast? with | none => false | some o => decide (v.f4 < o.f4)
/-- What Decide answers. -/
def dec (L : List S32) (v : S32) : Int :=
  if vd v = false then 1 else if hasId L v.f0 then 9 else if late L v then 24 else
    match cur L v.f1 v.f2 with
    | none => if v.f6.toList = [] then 0 else 11
    | some o => if o.f0.toList ≠ v.f6.toList then 12 else if o.f5 then 22 else 0
def step (L : List S32) (v : S32) : List S32 := if dec L v = 0 then L ++ [v] else L
def val (L : List S32) (m q : ByteArray) : Int × Bool := match cur L m q with | none => (0, false) | some v => (v.f3, true)
def st (L : List S32) (id : ByteArray) : Bool := match L.find? (fun x => decide (x.f0 = id)) with
  | none => false
  | some v => match cur L v.f1 v.f2 with | none => false | some o => o.f0.toList == id.toList
/-- A list that a register may hold. -/
def Good (L : List S32) : Prop := (∀ v ∈ L, vd v = true) ∧ L.Pairwise (fun a b => a.f0 ≠ b.f0)
theorem good_nil : Good [] := ⟨fun v h => by simp at h, List.Pairwise.nil⟩
theorem good_step {L : List S32} (h : Good L) (v : S32) : Good (step L v) := by
  unfold step
  by_cases hd : dec L v = 0
  · rw [if_pos hd]
    have hv : vd v = true := by
      rcases hv : vd v with _ | _
      · unfold dec at hd; rw [if_pos hv] at hd; exact absurd hd (by decide)
      · rfl
    have hi : hasId L v.f0 = false := by
      rcases hi : hasId L v.f0 with _ | _
      · rfl
      · unfold dec at hd; rw [if_neg (by simp [hv]), if_pos hi] at hd; exact absurd hd (by decide)
    refine ⟨fun x hx => ?_, List.pairwise_append.2 ⟨h.2, List.pairwise_singleton _ _, fun a ha b hb => ?_⟩⟩
    · rcases List.mem_append.1 hx with hx | hx
      · exact h.1 x hx
      · rw [List.mem_singleton.1 hx]; exact hv
    · rw [List.mem_singleton.1 hb]
      intro e
      have : hasId L v.f0 = true := List.any_eq_true.2 ⟨a, ha, decide_eq_true e⟩
      rw [hi] at this; cases this
  · rw [if_neg hd]; exact h
theorem step_len (L : List S32) (v : S32) : (step L v).length ≤ L.length + 1 := by
  unfold step; split <;> simp
theorem find_id {L : List S32} (h : Good L) {v : S32} (hv : v ∈ L) : L.find? (fun x => decide (x.f0 = v.f0)) = some v := by
  induction L with
  | nil => simp at hv
  | cons a L ih =>
    obtain ⟨h1, h2⟩ := h
    rw [List.pairwise_cons] at h2
    rcases List.mem_cons.1 hv with rfl | hv
    · simp
    · rw [List.find?_cons, decide_eq_false (h2.1 v hv)]
      exact ih ⟨fun x hx => h1 x (List.mem_cons_of_mem _ hx), h2.2⟩ hv
theorem find_none {L : List S32} {id : ByteArray} (h : hasId L id = false) : L.find? (fun x => decide (x.f0 = id)) = none := by
  rw [List.find?_eq_none]
  intro x hx hc
  have : hasId L id = true := List.any_eq_true.2 ⟨x, hx, hc⟩
  rw [h] at this; cases this
theorem toList_inj {a b : ByteArray} (h : a.toList = b.toList) : a = b := by
  rw [Lib.toList_data, Lib.toList_data] at h
  apply ByteArray.ext
  exact Array.toList_inj.1 h
end Go.Proofs.YtbmmedoopjjbkaaDoor.Fin
