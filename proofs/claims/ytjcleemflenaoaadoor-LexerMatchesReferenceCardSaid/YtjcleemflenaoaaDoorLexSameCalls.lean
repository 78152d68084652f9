/- The contract of the reference's Same in the print's words. -/
import Derived.Test.YtjcleemflenaoaaDoorLexSame
namespace Go.Proofs.YtjcleemflenaoaaDoor.H
open Go.RowKit Go.Proofs.YtjcleemflenaoaaDoorW.PrintWords Go.Proofs.YtjcleemflenaoaaDoorW.PrintLast Go.Proofs.YtjcleemflenaoaaDoorW.PrintMore
set_option linter.unusedVariables false
def pandectref05_Same.f (l0 : List S30) (a1 : Int) (l2 : List S30) : Option Bool := if l0.length ≤ 1000000000 then some (same l0 a1 l2) else none
theorem pandectref05_Same.calls (A0 : Option Addr) (c0 : Nat) (l0 : List S30) (a1 : Int) (A2 : Option Addr) (c2 : Nat) (l2 : List S30) (r : Bool) (w : World) (hr0 : Kd.C k30 w A0 l0.length l0) (hc0 : l0.length ≤ c0) (hr2 : Kd.C k30 w A2 l2.length l2) (hc2 : l2.length ≤ c2) (h : pandectref05_Same.f l0 a1 l2 = some r) :
    Calls Tryd.prog 14 #[.slice A0 l0.length c0, .int .i64 a1, .slice A2 l2.length c2] w fun e w' => e = .returned (.bool r) ∧ Below w.heap.size w w' := by
  unfold pandectref05_Same.f at h
  by_cases hl : l0.length ≤ 1000000000
  · rw [if_pos hl] at h
    cases h
    exact same_calls A0 c0 l0 a1 A2 c2 l2 w hr0 hr2 hl
  · rw [if_neg hl] at h
    cases h
end Go.Proofs.YtjcleemflenaoaaDoor.H
