/- The comparison of two lists of tokens whose places are apart by a number. -/
import Derived.Test.YtjcleemflenaoaaDoorLexCmp
import Derived.Test.YtjcleemflenaoaaDoorLexSameCalls
namespace Go.Proofs.YtjcleemflenaoaaDoor.LexHead
open Go.RowKit Go.Proofs.YtjcleemflenaoaaDoor.H Go.Proofs.YtjcleemflenaoaaDoorW.PrintWords Go.Proofs.YtjcleemflenaoaaDoorW.PrintLast
theorem same_shift {xs : List Lex.Fd} (off : Nat) (ho : off ≤ 100000) (hn : xs.length ≤ 100000) (hp : ∀ x ∈ xs, x.pos ≤ 100000) :
    pandectref05_Same.f (xs.map lexer_Lex.toS) (off : Int) ((xs.map (Lex.shift off)).map lexer_Lex.toS) = some true := by
  unfold pandectref05_Same.f
  rw [if_pos (by rw [List.length_map]; omega)]
  congr 1
  unfold same
  rw [Bool.and_eq_true, List.all_eq_true]
  refine ⟨by simp, fun j hj => ?_⟩
  have hj : j < xs.length := by have := List.mem_range.1 hj; rwa [List.length_map] at this
  have hx := List.getElem?_eq_getElem hj
  have hpos := hp xs[j] (List.getElem_mem hj)
  rw [rd_map xs j _ hx, rd_map (xs.map (Lex.shift off)) j (Lex.shift off xs[j]) (by rw [List.getElem?_map, hx]; rfl)]
  have hw : wrap64 (((xs[j]).pos : Int) + (off : Int)) = (((xs[j]).pos + off : Nat) : Int) := by rw [wrap_id (by omega) (by omega)]; omega
  unfold sameTok
  simp only [lexer_Lex.toS, Lex.shift, hw, beq_self_eq_true, Bool.and_self]
theorem same_self {xs : List Lex.Fd} (hn : xs.length ≤ 100000) (hp : ∀ x ∈ xs, x.pos ≤ 100000) :
    pandectref05_Same.f (xs.map lexer_Lex.toS) 0 (xs.map lexer_Lex.toS) = some true := by
  have := same_shift (xs := xs) 0 (by omega) hn hp
  have e : xs.map (Lex.shift 0) = xs := by
    conv => rhs; rw [← List.map_id xs]
    exact List.map_congr_left (fun x _ => by cases x; rfl)
  rw [e] at this
  exact this
end Go.Proofs.YtjcleemflenaoaaDoor.LexHead
