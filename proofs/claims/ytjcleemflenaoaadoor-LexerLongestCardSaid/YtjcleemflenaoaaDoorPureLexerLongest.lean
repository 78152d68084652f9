/- The pure statement of LexerLongest: the bytes of two tokens that follow each other directly are no single token. -/
import Derived.Test.YtjcleemflenaoaaDoorLexHead
import Derived.Test.YtjcleemflenaoaaDoorLexPure3
import Derived.Test.YtjcleemflenaoaaDoorH4
namespace Go.Proofs.YtjcleemflenaoaaDoor.PureLongest
open Go.RowKit Go.Proofs.YtjcleemflenaoaaDoor.H Go.Proofs.YtjcleemflenaoaaDoorW.PrintWords Go.Proofs.YtjcleemflenaoaaDoorW.PrintLast

theorem wrap_id {x : Int} (h0 : -9223372036854775808 ≤ x) (h1 : x ≤ 9223372036854775807) : wrap64 x = x := by
  unfold wrap64
  omega
theorem rd_map (xs : List Lex.Fd) (j : Nat) (x : Lex.Fd) (h : xs[j]? = some x) : rd_T30 (xs.map lexer_Lex.toS) (j : Int) = lexer_Lex.toS x := by
  unfold rd_T30
  rw [Int.toNat_natCast, List.getD_eq_getElem?_getD, List.getElem?_map, h]; rfl
theorem size_data (s : ByteArray) : s.size = s.data.toList.length := by rw [Array.length_toList]; rfl
theorem two_parts {xs : List Lex.Fd} {i : Nat} (h : i + 1 < xs.length) : xs = xs.take i ++ xs[i] :: xs[i + 1] :: xs.drop (i + 2) := by
  rw [← List.drop_eq_getElem_cons h, ← List.drop_eq_getElem_cons (by omega), List.take_append_drop]

theorem loop (l : List UInt8) (hl : l.length ≤ 3000) (hok : ∀ f ∈ Lex.lx 0 l, f.err = 0) : ∀ (d k i : Nat), (Lex.lx 0 l).length - i = d → 1 ≤ i → 2 * d + 2 ≤ k →
    pandectlaw05_LexerLongest.l0 k true ((Lex.lx 0 l).map lexer_Lex.toS) 0 (i : Int) = some true := by
  have hxl := Lex.lx_len 0 l
  intro d
  induction d with
  | zero =>
    intro k i hd hi hk
    obtain ⟨k, rfl⟩ : ∃ m, k = m + 1 := ⟨k - 1, by omega⟩
    obtain ⟨k, rfl⟩ : ∃ m, k = m + 1 := ⟨k - 1, by omega⟩
    simp only [pandectlaw05_LexerLongest.l0]
    rw [if_neg (by rw [List.length_map]; omega)]
    simp only [pandectlaw05_LexerLongest.j1, Bool.false_eq_true, if_false]
  | succ d ih =>
    intro k i hd hi hk
    obtain ⟨k, rfl⟩ : ∃ m, k = m + 1 := ⟨k - 1, by omega⟩
    obtain ⟨k, rfl⟩ : ∃ m, k = m + 1 := ⟨k - 1, by omega⟩
    obtain ⟨j, rfl⟩ : ∃ j, i = j + 1 := ⟨i - 1, by omega⟩
    have hlt : j + 1 < (Lex.lx 0 l).length := by omega
    have hs := two_parts hlt
    have hx := hok _ (List.getElem_mem (show j < (Lex.lx 0 l).length by omega))
    have hy := hok _ (List.getElem_mem hlt)
    have sx := Lex.lx_split 0 l _ _ _ hs hx
    have sy := Lex.lx_split 0 l ((Lex.lx 0 l).take j ++ [(Lex.lx 0 l)[j]]) _ _ (by rw [List.append_assoc]; exact hs) hy
    have hadj := Lex.lx_adj hs hx hy
    have r1 := rd_map (Lex.lx 0 l) j _ (List.getElem?_eq_getElem (by omega))
    have r2 := rd_map (Lex.lx 0 l) (j + 1) _ (List.getElem?_eq_getElem hlt)
    have next := ih k (j + 1 + 1) (by omega) (by omega) (by omega)
    revert r1 r2 hadj sx sy hx hy
    generalize (Lex.lx 0 l)[j] = x
    generalize (Lex.lx 0 l)[j + 1] = y
    intro hx hy sx sy hadj r1 r2
    have zx : ((lexer_Lex.toS x).f1).size = x.text.length := by rw [size_data]; simp [lexer_Lex.toS]
    have zy : ((lexer_Lex.toS y).f1).size = y.text.length := by rw [size_data]; simp [lexer_Lex.toS]
    have px : (lexer_Lex.toS x).f3 = (x.pos : Int) := rfl
    have py : (lexer_Lex.toS y).f3 = (y.pos : Int) := rfl
    have w1 : wrap64 (((j + 1 : Nat) : Int) - 1) = (j : Int) := by rw [wrap_id (by omega) (by omega)]; omega
    simp only [pandectlaw05_LexerLongest.l0]
    rw [if_pos (by rw [List.length_map]; omega)]
    simp only [pandectlaw05_LexerLongest.j1]
    rw [if_pos (by rfl), w1, if_pos (by omega), if_pos (by rw [List.length_map]; omega), if_pos (by omega), if_pos (by rw [List.length_map]; omega), r1, r2, zx, zy, px, py]
    rw [wrap_id (x := (x.pos : Int) + (x.text.length : Int)) (by omega) (by omega), wrap_id (x := ((j + 1 : Nat) : Int) + 1) (by omega) (by omega)]
    by_cases hp : (x.pos : Int) + (x.text.length : Int) = (y.pos : Int)
    · rw [if_pos hp, if_pos (by omega)]
      obtain ⟨z, w, r, e⟩ := hadj (by omega)
      have hd2 : (((lexer_Lex.toS x).f1) ++ ((lexer_Lex.toS y).f1)).data.toList = x.text ++ y.text := by
        rw [ByteArray.data_append, Array.toList_append]; rfl
      have hlen : (((lexer_Lex.toS x).f1) ++ ((lexer_Lex.toS y).f1)).data.toList.length ≤ 5000 := by rw [hd2, List.length_append]; omega
      rcases LexHead.cases _ hlen with ⟨xs, ho, el, ef⟩ | ⟨pre, q, ho, hq, el, ef⟩
      · rw [ef]
        simp only [Option.bind_some, if_true]
        rw [hd2, e] at el
        rw [if_neg (by rw [← el, List.length_map, List.length_cons, List.length_cons]; omega)]
        exact next
      · rw [ef]
        simp only [Option.bind_some]
        rw [if_neg hq]
        exact next
    · rw [if_neg hp]
      exact next
end Go.Proofs.YtjcleemflenaoaaDoor.PureLongest
namespace Go.Proofs.YtjcleemflenaoaaDoor.Pure
open Go.RowKit Go.Proofs.YtjcleemflenaoaaDoor.H Go.Proofs.YtjcleemflenaoaaDoorW.PrintWords Go.Proofs.YtjcleemflenaoaaDoorW.PrintLast
theorem LexerLongest : pandectlaw05_LexerLongest.Pure := by
  intro s _
  have main : ∀ K, 10000 ≤ K → pandectlaw05_LexerLongest.f K s = some true := by
    intro K hK
    unfold pandectlaw05_LexerLongest.f
    rw [LexHead.head]
    simp only [Option.bind_some]
    by_cases hs : (s.size : Int) > 3000
    · rw [if_pos hs]
    · rw [if_neg hs]
      have hsn : s.data.toList.length = s.size := Array.length_toList
      obtain ⟨xs, hok, hl, e⟩ | ⟨pre, x, hp, hx, hl, e⟩ := LexHead.cases s (by omega)
      · rw [e]
        simp only [Option.bind_some]
        subst hl
        have := Lex.lx_len 0 s.data.toList
        exact PureLongest.loop s.data.toList (by omega) hok _ K 1 rfl (by omega) (by omega)
      · rw [e]
        obtain ⟨k, rfl⟩ : ∃ m, K = m + 2 := ⟨K - 2, by omega⟩
        simp only [Option.bind_some, pandectlaw05_LexerLongest.l0]
        rw [if_neg (by simp)]
        simp only [pandectlaw05_LexerLongest.j1, Bool.false_eq_true, if_false]
  exact ⟨10000, main _ (Nat.le_refl _)⟩
end Go.Proofs.YtjcleemflenaoaaDoor.Pure
