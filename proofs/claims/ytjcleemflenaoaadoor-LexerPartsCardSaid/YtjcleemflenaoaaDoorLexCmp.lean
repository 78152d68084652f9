/- The comparisons of the laws, as the print tells them: two lists of tokens that agree. -/
import Derived.Test.YtjcleemflenaoaaDoorLexHead
import Derived.Test.YtjcleemflenaoaaDoorLexPure2
import Derived.Test.YtjcleemflenaoaaDoorH7
namespace Go.Proofs.YtjcleemflenaoaaDoor.LexHead
open Go.RowKit Go.Proofs.YtjcleemflenaoaaDoor.H Go.Proofs.YtjcleemflenaoaaDoorW.PrintWords Go.Proofs.YtjcleemflenaoaaDoorW.PrintLast

theorem wrap_id {x : Int} (h0 : -9223372036854775808 ≤ x) (h1 : x ≤ 9223372036854775807) : wrap64 x = x := by
  unfold wrap64
  omega

theorem alike_loop (A B : List S30) (hl : A.length = B.length) (hn : A.length ≤ 100000)
    (h : ∀ j : Nat, j < A.length → (rd_T30 A j).f0 = (rd_T30 B j).f0 ∧ (rd_T30 A j).f1 = (rd_T30 B j).f1 ∧ (rd_T30 A j).f2 = (rd_T30 B j).f2) :
    ∀ (d k i : Nat), A.length - i = d → i ≤ A.length → d < k → pandectref05_Alike.l0 k A B (i : Int) = some true := by
  intro d
  induction d with
  | zero =>
    intro k i hd hi hk
    obtain ⟨k, rfl⟩ : ∃ m, k = m + 1 := ⟨k - 1, by omega⟩
    simp only [pandectref05_Alike.l0]
    rw [if_neg (by omega)]
  | succ d ih =>
    intro k i hd hi hk
    obtain ⟨k, rfl⟩ : ∃ m, k = m + 1 := ⟨k - 1, by omega⟩
    obtain ⟨h0, h1, h2⟩ := h i (by omega)
    simp only [pandectref05_Alike.l0]
    rw [if_pos (by omega), if_pos (by omega), if_pos (by omega), if_pos h0, if_pos (by rw [h1]), if_pos h2, wrap_id (by omega) (by omega)]
    exact ih k (i + 1) (by omega) (by omega) (by omega)
theorem rd_map (xs : List Lex.Fd) (j : Nat) (x : Lex.Fd) (h : xs[j]? = some x) : rd_T30 (xs.map lexer_Lex.toS) (j : Int) = lexer_Lex.toS x := by
  unfold rd_T30
  rw [Int.toNat_natCast, List.getD_eq_getElem?_getD, List.getElem?_map, h]; rfl
theorem core_at {xs ys : List Lex.Fd} (h : xs.map Lex.core = ys.map Lex.core) {j : Nat} {x : Lex.Fd} (hx : xs[j]? = some x) : ∃ y, ys[j]? = some y ∧ Lex.core x = Lex.core y := by
  have e := congrArg (fun l => l[j]?) h
  simp only [List.getElem?_map, hx, Option.map_some] at e
  cases hy : ys[j]? with
  | none => rw [hy] at e; simp at e
  | some y => rw [hy] at e; exact ⟨y, rfl, by simpa using e⟩
theorem alike_of_core {xs ys : List Lex.Fd} (h : xs.map Lex.core = ys.map Lex.core) (hn : xs.length ≤ 100000) (k : Nat) (hk : xs.length < k) :
    pandectref05_Alike.f k (xs.map lexer_Lex.toS) (ys.map lexer_Lex.toS) = some true := by
  have hl : xs.length = ys.length := by have := congrArg List.length h; simpa using this
  unfold pandectref05_Alike.f
  rw [if_pos (by simp [hl])]
  refine alike_loop _ _ (by simp [hl]) (by simpa using hn) ?_ xs.length k 0 (by simp) (by simp) hk
  intro j hj
  rw [List.length_map] at hj
  obtain ⟨y, hy, hc⟩ := core_at h (x := xs[j]) (List.getElem?_eq_getElem hj)
  rw [rd_map xs j _ (List.getElem?_eq_getElem hj), rd_map ys j y hy]
  simp only [Lex.core, Prod.mk.injEq] at hc
  simp only [lexer_Lex.toS, hc.1, hc.2.1, hc.2.2.1, and_self]
/-- Places lie in the text. -/
theorem lx_pos : ∀ p l, ∀ x ∈ Lex.lx p l, x.pos ≤ p + l.length := by
  refine Lex.lx_ind ?_ ?_ ?_ ?_ ?_
  · intro p x hx; rw [Lex.lx_nil] at hx; simp at hx
  · intro p b t h1 ih x hx; rw [Lex.lx_blank h1] at hx; have := ih x hx; rw [List.length_cons]; omega
  · intro p b t h2 ih x hx
    rw [Lex.lx_hash h2] at hx
    have := ih x hx
    have hlen : (t.dropWhile Lex.notNl).length + (t.takeWhile Lex.notNl).length = t.length := by
      have := Lex.takeWhile_len_le Lex.notNl t
      rw [Lex.dropWhile_eq_drop, List.length_drop]; omega
    rw [List.length_cons]; omega
  · intro p b t h1 h2 he ih x hx
    rw [Lex.lx_tok h1 h2, if_pos he] at hx
    rcases List.mem_cons.1 hx with rfl | hx
    · rw [Lex.tok1_pos]; omega
    · have := ih x hx
      have := Lex.tok1_text_le p b t
      rw [List.length_drop] at *
      omega
  · intro p b t h1 h2 he x hx
    rw [Lex.lx_tok h1 h2, if_neg he] at hx
    rw [List.mem_singleton.1 hx, Lex.tok1_pos]; omega
theorem data_app (a b : ByteArray) : (a ++ b).data.toList = a.data.toList ++ b.data.toList := by
  rw [ByteArray.data_append, Array.toList_append]
end Go.Proofs.YtjcleemflenaoaaDoor.LexHead
