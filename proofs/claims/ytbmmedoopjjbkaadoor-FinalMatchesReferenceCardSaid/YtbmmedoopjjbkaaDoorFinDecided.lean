/- decided: all verdicts of a list, decided one after the other. -/
import Derived.Test.YtbmmedoopjjbkaaDoorFinHead
namespace Go.Proofs.YtbmmedoopjjbkaaDoor.Fin
open Go.RowKit Go.Proofs.YtbmmedoopjjbkaaDoor.H Go.Proofs.YtbmmedoopjjbkaaDoorW.PrintWords Go.Proofs.YtbmmedoopjjbkaaDoorW.PrintLast Go.Proofs.YtbmmedoopjjbkaaDoorW.PrintMore
set_option linter.unusedVariables false
set_option linter.unusedSimpArgs false
attribute [local go_sem] Oper.semAt_some

def decL (l : List S32) : List S32 := l.foldl step []
theorem fold_len : ∀ (l acc : List S32), (l.foldl step acc).length ≤ acc.length + l.length := by
  intro l
  induction l with
  | nil => intro acc; simp
  | cons v l ih =>
    intro acc
    have h1 := ih (step acc v)
    have h2 := step_len acc v
    simp only [List.foldl_cons, List.length_cons]
    omega
theorem decL_len (l : List S32) : (decL l).length ≤ l.length := by simpa [decL] using fold_len l []
theorem rd_get (l : List S32) (i : Nat) (h : i < l.length) : rd_T32 l (i : Int) = l[i] := by
  unfold rd_T32
  rw [Int.toNat_natCast, List.getD_eq_getElem?_getD, List.getElem?_eq_getElem h]; rfl
theorem fold_take (l acc : List S32) (i : Nat) (h : i < l.length) : (l.take (i + 1)).foldl step acc = step ((l.take i).foldl step acc) (rd_T32 l (i : Int)) := by
  rw [rd_get l i h, List.take_succ_eq_append_getElem h, List.foldl_append]; rfl

set_option maxRecDepth 100000 in
set_option maxHeartbeats 1000000 in
theorem decided_calls (A0 : Option Addr) (c0 : Nat) (l0 : List S32) (w : World) (hr0 : Kd.C k32 w A0 l0.length l0) (hl : l0.length ≤ 1000) :
    Calls Tryd.prog 22 #[.slice A0 l0.length c0] w fun e w' => ∃ b, e = .returned (.pointer (some ⟨b, 0, none⟩)) ∧ Inv w no w' b (decL l0) ∧ w.heap.size ≤ b := by
  have HR0 := Aside0.mk hr0
  have HLL := Aside0.mk hl
  clear hr0 hl
  go_enter Tryd.func22, Tryd.ntmps22
  go_wp2_with ((with_reducible refine gate_dst (N := 5) rfl ?_); (try (refine gate_guard (by rfl) ?_; dsimp only)); refine goesL_ (some 5) rfl rfl Tryd.func11 (by kernel_rfl) rfl #[] rfl (by (try simp only [List.map_toArray, List.map_cons, List.map_nil]); first | done | rfl) ?_; refine (inv_new _).mono ?_; rintro e w2 ⟨b, rfl, hr, hl⟩; have HV := Aside0.mk hr; have HLB := Aside0.mk hl; clear hr hl; refine ⟨_, rfl, ?_⟩)
  go_loopg [4] (l0.length + 1) (fun g v W => ∃ i : Nat, v = .int .i64 i ∧ i ≤ l0.length ∧ Aside0 (l0.length - i < g) ∧ Aside0 (Inv w no W b ((l0.take i).foldl step [])))
  case atStart => exact ⟨0, rfl, Nat.zero_le _, ⟨by omega⟩, ⟨HV.out⟩⟩
  case round =>
    obtain ⟨i, rfl, hi, HG, HI⟩ := hrel
    obtain ⟨g, rfl⟩ : ∃ g, gk = g + 1 := ⟨gk - 1, by have := HG.out; omega⟩
    by_cases hlt : i < l0.length
    · have e2 : decide ((i : Int) < (l0.length : Int)) = true := decide_eq_true (by omega)
      have e3 : decide (i < l0.length) = true := decide_eq_true (by omega)
      obtain ⟨ad0, rfl, x0, x1, x2, x3, x4, x5, x6⟩ := at_T32 (Kd.C_below HR0.out HI.out.b0) (i : Int) (by omega) (by omega)
      simp only [Int.toNat_natCast] at x0 x1 x2 x3 x4 x5 x6
      have p0 : (0 ≤ (i : Int)) = True := eq_true (by omega)
      have p2 : ((i : Int) < (l0.length : Int)) = True := eq_true (by omega)
      have hw : wrap64 ((i : Int) + 1) = (i : Int) + 1 := by unfold wrap64; have := HLL.out; omega
      have HLT := Aside0.mk hlt
      clear hlt
      go_wp2_with ((with_reducible refine gate_dst (N := 17) rfl ?_); (try (refine gate_guard (by rfl) ?_; dsimp only)); refine goesL_ (some 17) rfl rfl Tryd.func13 (by kernel_rfl) rfl #[.pointer (some ⟨b, 0, none⟩), .agg (vcells (rd_T32 l0 (i : Int)))] rfl (by (try simp only [List.map_toArray, List.map_cons, List.map_nil]); first | done | rfl) ?_; refine (inv_decide (rd_T32 l0 (i : Int)) HI.out (by have h1 := fold_len (l0.take i) []; rw [List.length_take] at h1; simp only [List.length_nil] at h1; have := HLL.out; omega)).mono ?_; rintro e w2 ⟨rfl, hr⟩; have HI2 := Aside0.mk hr; clear hr; refine ⟨_, rfl, ?_⟩)
      go_roundg g
      case measure => exact Nat.lt_succ_self g
      case rel => exact ⟨i + 1, by first | rfl | go_num | (simp; done), by have := HLT.out; omega, ⟨by have := HG.out; have := HLT.out; omega⟩, ⟨by rw [fold_take l0 [] i HLT.out]; exact HI2.out⟩⟩
    · have e2 : decide ((i : Int) < (l0.length : Int)) = false := decide_eq_false (by omega)
      have e3 : decide (i < l0.length) = false := decide_eq_false (by omega)
      have HE := Aside0.mk (show i = l0.length by omega)
      clear hlt
      go_wp2
      go_ret
      exact ⟨_, rfl, by have h := HI.out; rw [HE.out, List.take_length] at h; exact h, HLB.out⟩
end Go.Proofs.YtbmmedoopjjbkaaDoor.Fin
