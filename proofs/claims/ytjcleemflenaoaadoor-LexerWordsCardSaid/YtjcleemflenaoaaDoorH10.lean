-- Written by wip/hyb.py (a program of this session, over the kit's print) for this seat; Lean checks it.
import Derived.Test.YtjcleemflenaoaaDoorH0
import Derived.Test.YtjcleemflenaoaaDoorH9
namespace Go.Proofs.YtjcleemflenaoaaDoor.H
open Go.RowKit Go.Proofs.YtjcleemflenaoaaDoorW.PrintWords Go.Proofs.YtjcleemflenaoaaDoorW.PrintLast Go.Proofs.YtjcleemflenaoaaDoorW.PrintMore
attribute [local go_sem] max2_int min2_int max_two min_two max_three min_three max_four min_four   -- for this text's walks alone
set_option linter.unusedVariables false
set_option linter.unusedSimpArgs false

/-! ### pandectref05_Gaps: function 15 -/
def pandectref05_Gaps.f (k : Nat) (a0 : ByteArray) : Option (Bool) := (pandectref05_gap.f k a0 0).bind fun t186 => (some (t186 == (a0.size : Int)))
theorem pandectref05_Gaps.mono : ∀ a0 k, LeO (pandectref05_Gaps.f k a0) (pandectref05_Gaps.f (k + 1) a0) := by
  intro a0 k
  unfold pandectref05_Gaps.f
  repeat' first
      | (with_reducible exact pandectref05_gap.mono _ _ _)
      | (with_reducible exact LeO.refl _)
      | (with_reducible exact LeO.none _)
      | (with_reducible refine LeO.ite ?_ ?_)
      | (with_reducible refine LeO.bind ?_ (fun _ => ?_))
      | exact pandectref05_gap.mono _ _ _
      | exact LeO.none _
      | refine LeO.ite ?_ ?_
      | refine LeO.bind ?_ (fun _ => ?_)
set_option maxHeartbeats 8000000 in
set_option maxRecDepth 100000 in
theorem pandectref05_Gaps.calls (k : Nat) (a0 : ByteArray) (r : Bool) (w : World) (h : pandectref05_Gaps.f k a0 = some r) :
    Calls Tryd.prog 15 #[.string a0] w fun e w' => e = .returned (.bool r) ∧ Drawn0 w w' := by
  have H : ((pandectref05_gap.f k a0 0).bind fun t186 => (some (t186 == (a0.size : Int)))) = some r := h
  clear h
  replace H := Option.bind_eq_some_iff.mp H
  obtain ⟨t186, A20, H⟩ := H
  replace H : (some (t186 == (a0.size : Int))) = some r := H
  have A2 := Aside0.mk A20
  clear A20
  obtain rfl := Option.some.inj H
  go_enter Tryd.func15, Tryd.ntmps15
  go_wp2_with (first | ((with_reducible refine gate_callee (f := 21) rfl ?_); refine goesL_ (some 4) rfl rfl Tryd.func21 (by kernel_rfl) rfl #[.string a0, .int .i64 0] rfl (by (try simp only [List.map_toArray, List.map_cons, List.map_nil]); first | done | rfl | (simp only [List.length_drop, List.length_take]; rfl)) ?_; (with_reducible refine (pandectref05_gap.calls k a0 0 t186 _ A2.out).mono ?_); rintro e w' ⟨rfl, ⟨nd, rfl⟩⟩; refine ⟨_, rfl, ?_⟩))
  go_ret
  exact ⟨by first | rfl | (simp; done) | (simp [*]; done), by repeat (first | exact Drawn0.refl _ | apply Drawn0.step)⟩

end Go.Proofs.YtjcleemflenaoaaDoor.H
