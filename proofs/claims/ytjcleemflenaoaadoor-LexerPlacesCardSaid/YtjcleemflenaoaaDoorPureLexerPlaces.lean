/- The pure statement of LexerPlaces: each token stands at its place, and before, between and after the tokens are only gaps. -/
import Derived.Test.YtjcleemflenaoaaDoorLexPure3
import Derived.Test.YtjcleemflenaoaaDoorLexCmp
import Derived.Test.YtjcleemflenaoaaDoorLexGap
import Derived.Test.YtjcleemflenaoaaDoorH12
namespace Go.Proofs.YtjcleemflenaoaaDoor.Pure
open Go.RowKit Go.Proofs.YtjcleemflenaoaaDoor.H Go.Proofs.YtjcleemflenaoaaDoorW.PrintWords Go.Proofs.YtjcleemflenaoaaDoorW.PrintLast

theorem places_gap (s : ByteArray) (a b p k : Nat) (hs : s.size ≤ 3000) (hk : 10000 ≤ k) (h : Lex.lx p ((s.data.toList.drop a).take (b - a)) = []) :
    pandectref05_Gaps.f k (s.extract a b) = some true := by
  have hsz : (s.extract a b).size ≤ 3000 := by rw [ByteArray.size_extract]; omega
  obtain ⟨t, ht, hi⟩ := LexGap.gaps_f (s.extract a b) (by omega) k (by omega)
  rw [ht]
  congr 1
  apply hi.2
  rw [Lib.extract_data]
  exact (LexGap.E_iff p _).1 h
set_option maxHeartbeats 1000000 in
theorem places_step (s : ByteArray) (hs : s.size ≤ 3000) (k : Nat) (A : List S30) (x : Lex.Fd) (i e : Nat) (hA : rd_T30 A (i : Int) = lexer_Lex.toS x) (hi : i < A.length) (h1 : e ≤ x.pos) (h2 : x.pos + x.text.length ≤ s.size) (h7 : 1 ≤ x.text.length)
    (h3 : (s.data.toList.drop x.pos).take x.text.length = x.text) (hg : pandectref05_Gaps.f k (s.extract e x.pos) = some true) (hib : i ≤ 3000) :
    pandectlaw05_LexerPlaces.l0 (k + 1) s true A 0 (e : Int) (i : Int) = pandectlaw05_LexerPlaces.l0 k s true A 0 ((x.pos + x.text.length : Nat) : Int) ((i + 1 : Nat) : Int) := by
  have hext : s.extract x.pos (x.pos + x.text.length) = (lexer_Lex.toS x).f1 := by
    apply ByteArray.ext
    apply Array.ext'
    rw [Lib.extract_data, show x.pos + x.text.length - x.pos = x.text.length by omega, h3]
    rfl
  have hf1 : (lexer_Lex.toS x).f1.size = x.text.length := by
    show (⟨x.text.toArray⟩ : ByteArray).size = _
    rw [Lib.size_eq]
  have hf3 : (lexer_Lex.toS x).f3 = (x.pos : Int) := rfl
  generalize lexer_Lex.toS x = y at hA hext hf1 hf3
  have hsum : wrap64 (y.f3 + (y.f1.size : Int)) = ((x.pos + x.text.length : Nat) : Int) := by
    rw [hf1, hf3, LexHead.wrap_id (by omega) (by omega)]; omega
  have hnx : wrap64 ((i : Int) + 1) = ((i + 1 : Nat) : Int) := LexHead.wrap_id (by omega) (by omega)
  have hz : (y.f1.size : Int) = (x.text.length : Int) := by rw [hf1]
  have hst : (s.extract (y.f3).toNat (((x.pos + x.text.length : Nat)) : Int).toNat).toList = y.f1.toList := by
    rw [hf3, Int.toNat_natCast, Int.toNat_natCast, hext]
  have hgg : pandectref05_Gaps.f k (s.extract (e : Int).toNat (y.f3).toNat) = some true := by
    rw [hf3, Int.toNat_natCast, Int.toNat_natCast]; exact hg
  generalize hP : (((x.pos + x.text.length : Nat)) : Int) = P at hsum hst ⊢
  have c0 : (i : Int) < (A.length : Int) := by omega
  have c1 : (0 : Int) ≤ (i : Int) := by omega
  have c2 : ¬ y.f3 < (e : Int) := by omega
  have c3 : ¬ (y.f1.size : Int) = 0 := by omega
  have c4 : ¬ P > (s.size : Int) := by omega
  have c5 : (0 : Int) ≤ y.f3 := by omega
  have c6 : y.f3 ≤ P := by omega
  have c7 : P ≤ (s.size : Int) := by omega
  have c8 : (0 : Int) ≤ (e : Int) := by omega
  have c9 : (e : Int) ≤ y.f3 := by omega
  have c10 : y.f3 ≤ (s.size : Int) := by omega
  rw [pandectlaw05_LexerPlaces.l0, hA, hsum, hnx, if_pos c0, if_pos c1, if_neg c2, if_neg c3, if_neg c4, if_pos c5, if_pos c6, if_pos c7, if_pos hst, if_pos c8, if_pos c9, if_pos c10, hgg]
  rfl
theorem places_loop (s : ByteArray) (hs : s.size ≤ 3000) (xs : List Lex.Fd) (hok : ∀ f ∈ xs, f.err = 0) (hn : xs.length ≤ 3000) : ∀ (d k i e : Nat), xs.length - i = d → i ≤ xs.length → 20000 + d ≤ k → e ≤ s.size →
    Lex.lx e (s.data.toList.drop e) = xs.drop i → pandectlaw05_LexerPlaces.l0 k s true (xs.map lexer_Lex.toS) 0 (e : Int) (i : Int) = some true := by
  have hsn : s.data.toList.length = s.size := Array.length_toList
  intro d
  induction d with
  | zero =>
    intro k i e hd hi hk he hl
    obtain ⟨k, rfl⟩ : ∃ m, k = m + 1 := ⟨k - 1, by omega⟩
    simp only [pandectlaw05_LexerPlaces.l0, List.length_map, if_true]
    rw [if_neg (by omega), if_pos (by omega), if_pos (by omega)]
    rw [List.drop_eq_nil_of_le (by omega : xs.length ≤ i)] at hl
    have h1 : Lex.lx e ((s.data.toList.drop (e : Int).toNat).take (s.size - (e : Int).toNat)) = [] := by
      rw [Int.toNat_natCast, List.take_of_length_le (by rw [List.length_drop]; omega)]; exact hl
    rw [places_gap s _ _ e k hs (by omega) h1]
    rfl
  | succ d ih =>
    intro k i e hd hi hk he hl
    obtain ⟨k, rfl⟩ : ∃ m, k = m + 1 := ⟨k - 1, by omega⟩
    have hil : i < xs.length := by omega
    have hgx : xs[i]? = some xs[i] := List.getElem?_eq_getElem hil
    have herr : (xs[i]).err = 0 := hok _ (List.getElem_mem hil)
    rw [List.drop_eq_getElem_cons hil] at hl
    have hA := LexHead.rd_map xs i _ hgx
    generalize xs[i] = x at hgx herr hl hA
    obtain ⟨h1, h2, h3, -, h5⟩ := Lex.lx_split e (s.data.toList.drop e) [] x (xs.drop (i + 1)) hl herr
    have h6 := Lex.lx_first e (s.data.toList.drop e) x (xs.drop (i + 1)) hl
    have h7 : 1 ≤ x.text.length := by
      obtain ⟨-, b, t, -, -, -, hx⟩ := Lex.lx_at e (s.data.toList.drop e) [] x (xs.drop (i + 1)) hl
      have := Lex.tok1_len (p := x.pos) (b := b) (t := t) (by rw [← hx]; exact herr)
      rw [← hx] at this; exact this
    rw [List.length_drop] at h2
    rw [List.drop_drop] at h3 h5
    rw [show e + (x.pos - e) = x.pos by omega] at h3
    rw [show e + (x.pos + x.text.length - e) = x.pos + x.text.length by omega] at h5
    rw [hsn] at h2
    have hle : x.pos + x.text.length ≤ s.size := by omega
    refine (places_step s hs k _ x i e hA (by rw [List.length_map]; omega) h1 hle h7 h3 (places_gap s e x.pos e k hs (by omega) h6) (by omega)).trans ?_
    exact ih k (i + 1) _ (by omega) (by omega) (by omega) hle h5

theorem LexerPlaces : pandectlaw05_LexerPlaces.Pure := by
  intro s _
  refine ⟨30000, ?_⟩
  unfold pandectlaw05_LexerPlaces.f
  rw [LexHead.head]
  simp only [Option.bind_some]
  by_cases hs : (s.size : Int) > 3000
  · rw [if_pos hs]
  rw [if_neg hs]
  have hsn : s.data.toList.length = s.size := Array.length_toList
  obtain ⟨xs, hok, hl, e⟩ | ⟨pre, x, hp, hx, hl, e⟩ := LexHead.cases s (by omega)
  · rw [e]
    simp only [Option.bind_some, if_true]
    have hxl : xs.length ≤ 3000 := by have := Lex.lx_len 0 s.data.toList; rw [hl] at this; omega
    exact places_loop s (by omega) xs hok hxl xs.length 30000 0 0 (by omega) (by omega) (by omega) (by omega) (by rw [List.drop_zero, List.drop_zero]; exact hl)
  · rw [e]
    obtain ⟨-, i2, -, -⟩ := Lex.lx_error 0 _ pre x hl hx
    simp only [Nat.zero_add] at i2
    rw [Array.length_toList] at i2
    have i2' : x.pos < s.size := i2
    simp only [Option.bind_some]
    rw [if_neg hx]
    simp only [if_true, List.length_nil]
    rw [if_pos (by decide), if_pos (by omega)]
    rw [decide_eq_true (by omega)]
end Go.Proofs.YtjcleemflenaoaaDoor.Pure
