/- The reference's next and Lex, as the print tells them: next answers the token at the head, Lex what the plain lexer answers. -/
import Derived.Test.YtjcleemflenaoaaDoorLexRef
import Derived.Test.YtjcleemflenaoaaDoorLexCalls
import Derived.Test.YtjcleemflenaoaaDoorH9
namespace Go.Proofs.YtjcleemflenaoaaDoor.LexRef
open Go.RowKit Go.Proofs.YtjcleemflenaoaaDoor.H Go.Proofs.YtjcleemflenaoaaDoorW.PrintWords Go.Proofs.YtjcleemflenaoaaDoorW.PrintLast
set_option linter.unusedVariables false

theorem span_mem (q : UInt8 → Bool) (l : List UInt8) (i j : Nat) (h : j < l.length) (h1 : i ≤ j) (h2 : j < Lex.span q l i) : q (l[j]'h) = true := by
  unfold Lex.span at h2
  refine Lex.mem_tw (t := l.drop i) ?_
  refine List.mem_of_getElem? (i := j - i) ?_
  rw [Lex.takeWhile_eq_take, List.getElem?_take_of_lt (by omega), List.getElem?_drop, show i + (j - i) = j by omega, List.getElem?_eq_getElem h]
theorem digit_loop (s : ByteArray) (hs : s.size ≤ 1000000) (p : Nat) : ∀ (d i k : Nat), s.size - i = d → p < i → i ≤ s.size → d + 20 ≤ k →
    ∃ k', 19 ≤ k' ∧ pandectref05_next.l1 k s (p : Int) (i : Int) 0 ⟨#[]⟩ 0 (p : Int) = pandectref05_next.j2 k' s (p : Int) (Lex.span Lex.isDigit s.data.toList i : Nat) 0 ⟨#[]⟩ 0 (p : Int) := by
  have hsn : s.data.toList.length = s.size := Array.length_toList
  intro d
  induction d with
  | zero =>
    intro i k hd hp hi hk
    obtain ⟨k, rfl⟩ : ∃ m, k = m + 1 := ⟨k - 1, by omega⟩
    refine ⟨k, by omega, ?_⟩
    rw [pandectref05_next.l1, if_neg (by omega), Lex.span_end _ _ _ (by omega)]
  | succ d ih =>
    intro i k hd hp hi hk
    obtain ⟨k, rfl⟩ : ∃ m, k = m + 1 := ⟨k - 1, by omega⟩
    have hlt : i < s.size := by omega
    rw [pandectref05_next.l1, if_pos (by omega), if_pos (by omega), bt_here hlt, digit_f]
    simp only [Option.bind_some]
    have hg : s.data.toList[i]'(by omega) = s[i]'hlt := by simp [ByteArray.getElem_eq_getElem_data]
    rcases hw : Lex.isDigit (s[i]'hlt) with _ | _
    · refine ⟨k, by omega, ?_⟩
      rw [if_neg (by simp), Lex.span_no (by omega) (by rw [hg]; exact hw)]
    · rw [if_pos rfl, Lex.span_yes (by omega) (by rw [hg]; exact hw), wrap_id (by omega) (by omega)]
      exact ih (i + 1) k (by omega) (by omega) (by omega) (by omega)
theorem head_dropWhile (q : UInt8 → Bool) (x : UInt8) (r : List UInt8) : ∀ t : List UInt8, t.dropWhile q = x :: r → q x = false
  | [], h => by simp at h
  | b :: t, h => by
    rw [List.dropWhile_cons] at h
    cases hb : q b with
    | true => rw [if_pos hb] at h; exact head_dropWhile q x r t h
    | false => rw [if_neg (by simp [hb])] at h; simp only [List.cons.injEq] at h; rw [← h.1]; exact hb
theorem num_f (s : ByteArray) (hs : s.size ≤ 1000000) (p : Nat) (hp : p < s.size) (h4 : Lex.cls (s[p]'hp) = 4) (k : Nat) (hk : 19 ≤ k) :
    pandectref05_next.j2 k s (p : Int) (Lex.span Lex.isDigit s.data.toList (p + 1) : Nat) 0 ⟨#[]⟩ 0 (p : Int) = some (nx (Lex.tok1 p (s[p]'hp) (s.data.toList.drop (p + 1)))) := by
  have hsn : s.data.toList.length = s.size := Array.length_toList
  obtain ⟨k, rfl⟩ : ∃ m, k = m + 2 := ⟨k - 2, by omega⟩
  have hle := Lex.span_le Lex.isDigit s.data.toList (p + 1) (by omega)
  have hge := Lex.le_span Lex.isDigit s.data.toList (p + 1)
  have hse : Lex.span Lex.isDigit s.data.toList (p + 1) = p + 1 + ((s.data.toList.drop (p + 1)).takeWhile Lex.isDigit).length := rfl
  have hmem := span_mem Lex.isDigit s.data.toList (p + 1)
  have hdw : (s.data.toList.drop (p + 1)).dropWhile Lex.isDigit = s.data.toList.drop (Lex.span Lex.isDigit s.data.toList (p + 1)) := by
    rw [Lex.dropWhile_eq_drop, List.drop_drop, hse]
  have htk : (s.data.toList.drop p).take (Lex.span Lex.isDigit s.data.toList (p + 1) - p) = (s[p]'hp) :: (s.data.toList.drop (p + 1)).takeWhile Lex.isDigit := by
    rw [hse, Lex.drop_here hp, show p + 1 + ((s.data.toList.drop (p + 1)).takeWhile Lex.isDigit).length - p = ((s.data.toList.drop (p + 1)).takeWhile Lex.isDigit).length + 1 by omega, List.take_succ_cons, ← Lex.takeWhile_eq_take]
  generalize Lex.span Lex.isDigit s.data.toList (p + 1) = e at hle hge hse hmem hdw htk ⊢
  have hj3t : ∀ k, pandectref05_next.j3 (k + 1) s (p : Int) (e : Int) true 2 ⟨#[]⟩ 0 (p : Int) = some (0, ⟨#[]⟩, 0, 0, 4) := fun k => by rw [pandectref05_next.j3, if_pos rfl]
  rw [pandectref05_next.j2, wrap_id (by omega) (by omega)]
  by_cases h7 : e - p > 7
  · rw [if_pos (by omega), hj3t, Lex.tok1_bad h4 (.inl (by omega))]; rfl
  · rw [if_neg (by omega)]
    have hl2 : pandectref05_next.j3 (k + 1) s (p : Int) (e : Int) false 2 ⟨#[]⟩ 0 (p : Int) = some (2, s.extract p e, Lex.decVal ((s[p]'hp) :: (s.data.toList.drop (p + 1)).takeWhile Lex.isDigit), (p : Int), 0) := by
      rw [pandectref05_next.j3, if_neg (by simp), sum_loop s hs p e (by omega) hle (by omega) ?_ (e - p) p k 0 rfl (by omega) (by omega) (by omega) (by omega) (by rw [Nat.sub_self]; decide), htk]
      · rfl
      · intro j h hj1 hj2
        by_cases hjp : j = p
        · subst hjp; exact h4
        · have := hmem j (by omega) (by omega) hj2
          have hg : s.data.toList[j]'(by omega) = s[j]'h := by simp [ByteArray.getElem_eq_getElem_data]
          rw [hg] at this
          simpa [Lex.isDigit] using this
    have hfin : ¬ Lex.headWord (s.data.toList.drop e) = true → some (2, s.extract p e, Lex.decVal ((s[p]'hp) :: (s.data.toList.drop (p + 1)).takeWhile Lex.isDigit), (p : Int), (0 : Int)) = some (nx (Lex.tok1 p (s[p]'hp) (s.data.toList.drop (p + 1)))) := by
      intro hn
      rw [Lex.tok1_num h4 (by rw [hdw]; rintro (h | h); omega; exact hn h), ext_eq, htk]; rfl
    by_cases hlt : e < s.size
    · rw [if_pos (by omega), if_pos (by omega), bt_here hlt, word_f]
      simp only [Option.bind_some]
      have hd0 : Lex.isDigit (s[e]'hlt) = false := head_dropWhile _ _ _ _ (hdw.trans (Lex.drop_here hlt))
      have hc4 : (Lex.cls (s[e]'hlt) == 4) = false := hd0
      have hw : Lex.isWord (s[e]'hlt) = Lex.headWord (s.data.toList.drop e) := by
        rw [Lex.drop_here hlt]
        show (Lex.cls (s[e]'hlt) == 3 || Lex.cls (s[e]'hlt) == 4 || Lex.cls (s[e]'hlt) == 5) = (Lex.cls (s[e]'hlt) == 3 || Lex.cls (s[e]'hlt) == 5)
        rw [hc4, Bool.or_false]
      rw [hw]
      by_cases hh : Lex.headWord (s.data.toList.drop e) = true
      · rw [hh, hj3t, Lex.tok1_bad h4 (.inr (by rw [hdw]; exact hh))]; rfl
      · rw [Bool.eq_false_iff.2 hh, hl2]; exact hfin hh
    · rw [if_neg (by omega), hl2]
      exact hfin (by rw [List.drop_eq_nil_of_le (by omega)]; decide)
theorem sym_no (s : ByteArray) (hs : s.size ≤ 1000000) (p : Nat) (hp : p < s.size) (b : UInt8) (k : Nat) (hk : 20 ≤ k) (h : Lex.cls b = 6 ∨ Lex.cls b = 7) :
    pandectref05_next.j5 k s (p : Int) ((p + 1 : Nat) : Int) (b.toNat : Int) false 3 ⟨#[]⟩ 0 (p : Int) = some (3, s.extract p (p + 1), 0, (p : Int), 0) := by
  obtain ⟨k, rfl⟩ : ∃ m, k = m + 1 := ⟨k - 1, by omega⟩
  rw [pandectref05_next.j5, if_neg (by simp), hasB _ _ (by omega), decide_eq_true h]
  simp only [Option.bind_some, if_true]
  rw [if_pos (by omega), if_pos (by omega), if_pos (by omega), Int.toNat_natCast, Int.toNat_natCast]
theorem sym_err (s : ByteArray) (p : Nat) (b : UInt8) (k : Nat) (hk : 20 ≤ k) (h : ¬ (Lex.cls b = 6 ∨ Lex.cls b = 7)) :
    pandectref05_next.j5 k s (p : Int) ((p + 1 : Nat) : Int) (b.toNat : Int) false 3 ⟨#[]⟩ 0 (p : Int) = some (0, ⟨#[]⟩, 0, 0, 3) := by
  obtain ⟨k, rfl⟩ : ∃ m, k = m + 1 := ⟨k - 1, by omega⟩
  rw [pandectref05_next.j5, if_neg (by simp), hasB _ _ (by omega), decide_eq_false h]
  simp only [Option.bind_some, Bool.false_eq_true, if_false]
theorem sym_two (s : ByteArray) (hs : s.size ≤ 1000000) (p : Nat) (hp : p + 1 < s.size) (x : Int) (k : Nat) (hk : 20 ≤ k) :
    pandectref05_next.j5 k s (p : Int) ((p + 1 : Nat) : Int) x true 3 ⟨#[]⟩ 0 (p : Int) = some (3, s.extract p (p + 2), 0, (p : Int), 0) := by
  obtain ⟨k, rfl⟩ : ∃ m, k = m + 1 := ⟨k - 1, by omega⟩
  have hw : wrap64 (((p + 1 : Nat) : Int) + 1) = ((p + 2 : Nat) : Int) := wrap_id (by omega) (by omega)
  rw [pandectref05_next.j5, if_pos rfl, hw, if_pos (by omega), if_pos (by omega), if_pos (by omega), Int.toNat_natCast, Int.toNat_natCast]
theorem ext_one (s : ByteArray) (p : Nat) (hp : p < s.size) : s.extract p (p + 1) = ⟨[s[p]'hp].toArray⟩ := by
  rw [ext_eq, Lex.drop_here hp, show p + 1 - p = 1 by omega]; rfl

theorem next_f (s : ByteArray) (hs : s.size ≤ 1000000) (p : Nat) (hp : p < s.size) (h1 : Lex.cls (s[p]'hp) ≠ 1) (h2 : Lex.cls (s[p]'hp) ≠ 2) (k : Nat) (hk : s.size + 40 ≤ k) :
    pandectref05_next.f k s (p : Int) = some (nx (Lex.tok1 p (s[p]'hp) (s.data.toList.drop (p + 1)))) := by
  have hsn : s.data.toList.length = s.size := Array.length_toList
  have hw : wrap64 ((p : Int) + 1) = ((p + 1 : Nat) : Int) := wrap_id (by omega) (by omega)
  rw [pandectref05_next.f, if_pos (by omega), if_pos (by omega), bt_here hp, letter_f, hw]
  simp only [Option.bind_some]
  by_cases h3 : Lex.cls (s[p]'hp) = 3
  · rw [decide_eq_true h3, if_pos rfl, word_loop s hs p _ (p + 1) k rfl (by omega) (by omega) (by omega), Lex.tok1_name h3, show Lex.span Lex.isWord s.data.toList (p + 1) = p + 1 + ((s.data.toList.drop (p + 1)).takeWhile Lex.isWord).length from rfl]
    by_cases h24 : ((s.data.toList.drop (p + 1)).takeWhile Lex.isWord).length + 1 > 24
    · rw [if_pos (by omega), if_pos h24]; rfl
    · rw [if_neg (by omega), if_neg h24, ext_eq, Lex.drop_here hp, show p + 1 + ((s.data.toList.drop (p + 1)).takeWhile Lex.isWord).length - p = ((s.data.toList.drop (p + 1)).takeWhile Lex.isWord).length + 1 by omega, List.take_succ_cons, ← Lex.takeWhile_eq_take]; rfl
  · rw [decide_eq_false h3, if_neg (by simp), digit_f]
    simp only [Option.bind_some]
    by_cases h4 : Lex.cls (s[p]'hp) = 4
    · rw [show Lex.isDigit (s[p]'hp) = true by simp [Lex.isDigit, h4], if_pos rfl]
      obtain ⟨k', hk', e⟩ := digit_loop s hs p _ (p + 1) k rfl (by omega) (by omega) (by omega)
      rw [e]
      exact num_f s hs p hp h4 k' hk'
    · rw [show Lex.isDigit (s[p]'hp) = false by simp [Lex.isDigit, h4], if_neg (by simp), hasA _ _ (by omega)]
      simp only [Option.bind_some]
      by_cases h78 : Lex.cls (s[p]'hp) = 7 ∨ Lex.cls (s[p]'hp) = 8
      · rw [decide_eq_true h78, if_pos rfl]
        have hhe : Lex.headEq (s.data.toList.drop (p + 1)) = true ↔ ∃ h : p + 1 < s.size, s[p + 1]'h = 61 := by
          by_cases hlt : p + 1 < s.size
          · rw [Lex.drop_here hlt]; simp [Lex.headEq, hlt]
          · rw [List.drop_eq_nil_of_le (by omega)]; simp [Lex.headEq, hlt]
        have hno : Lex.headEq (s.data.toList.drop (p + 1)) = false → pandectref05_next.j5 k s (p : Int) ((p + 1 : Nat) : Int) ((s[p]'hp).toNat : Int) false 3 ⟨#[]⟩ 0 (p : Int) = some (nx (Lex.tok1 p (s[p]'hp) (s.data.toList.drop (p + 1)))) := by
          intro he
          rcases h78 with h7 | h8
          · rw [sym_no s hs p hp _ k (by omega) (.inr h7), Lex.tok1_one h7 he, ext_one s p hp]; rfl
          · rw [sym_err s p _ k (by omega) (by omega), Lex.tok1_bang h8 he]; rfl
        by_cases hlt : p + 1 < s.size
        · rw [if_pos (by omega), if_pos (by omega), bt_here hlt]
          by_cases h61 : s[p + 1]'hlt = 61
          · have he : Lex.headEq (s.data.toList.drop (p + 1)) = true := hhe.2 ⟨hlt, h61⟩
            rw [h61, show (((61 : UInt8).toNat : Int) == 61) = true by decide, sym_two s hs p hlt _ k (by omega), Lex.tok1_two h78 he, ext_eq, Lex.drop_here hp, Lex.drop_here hlt, h61, show p + 2 - p = 2 by omega]; rfl
          · have he : Lex.headEq (s.data.toList.drop (p + 1)) = false := by
              rw [Bool.eq_false_iff]; intro h; obtain ⟨_, h⟩ := hhe.1 h; exact h61 h
            rw [show (((s[p + 1]'hlt).toNat : Int) == 61) = false by
              rw [beq_eq_false_iff_ne]; intro h; exact h61 (UInt8.toNat_inj.1 (by show (s[p + 1]'hlt).toNat = 61; omega))]
            exact hno he
        · rw [if_neg (by omega)]
          exact hno (by rw [Bool.eq_false_iff]; intro h; obtain ⟨h, _⟩ := hhe.1 h; exact hlt h)
      · rw [decide_eq_false h78, if_neg (by simp)]
        by_cases h6 : Lex.cls (s[p]'hp) = 6
        · rw [sym_no s hs p hp _ k (by omega) (.inl h6), Lex.tok1_sym h6, ext_one s p hp]; rfl
        · rw [sym_err s p _ k (by omega) (by omega), Lex.tok1_other (by have := Lex.cls_le (s[p]'hp); omega)]; rfl

/-- What both answer. -/
def res (x : List Lex.Fd × Int × Int) : List S30 × Int × Int := (x.1.map lexer_Lex.toS, x.2.1, x.2.2)
theorem lex_loop (s : ByteArray) (hs : s.size ≤ 1000000) : ∀ (n i k : Nat) (out : List Lex.Fd), s.size - i ≤ n → i ≤ s.size → out.length + (s.size - i) ≤ 1000000 → s.size - i + 4 * s.size + 100 ≤ k →
    (∀ h : i < s.size, Lex.cls (s[i]'h) ≠ 1 ∧ Lex.cls (s[i]'h) ≠ 2) →
    pandectref05_Lex.l0 k s (out.map lexer_Lex.toS) (i : Int) = some (res (Lex.run out (Lex.lx i (s.data.toList.drop i)))) := by
  have hsn : s.data.toList.length = s.size := Array.length_toList
  intro n
  induction n with
  | zero =>
    intro i k out hn hi ho hk hc
    obtain ⟨k, rfl⟩ : ∃ m, k = m + 1 := ⟨k - 1, by omega⟩
    rw [pandectref05_Lex.l0, if_neg (by omega), List.drop_eq_nil_of_le (by omega)]; rfl
  | succ n ih =>
    intro i k out hn hi ho hk hc
    obtain ⟨k, rfl⟩ : ∃ m, k = m + 1 := ⟨k - 1, by omega⟩
    by_cases hlt : i < s.size
    · obtain ⟨h1, h2⟩ := hc hlt
      rw [pandectref05_Lex.l0, if_pos (by omega), next_f s hs i hlt h1 h2 k (by omega)]
      simp only [Option.bind_some]
      have hrun : Lex.lx i (s.data.toList.drop i) = Lex.tok1 i (s[i]'hlt) (s.data.toList.drop (i + 1)) :: (if (Lex.tok1 i (s[i]'hlt) (s.data.toList.drop (i + 1))).err = 0 then Lex.lx (i + (Lex.tok1 i (s[i]'hlt) (s.data.toList.drop (i + 1))).text.length) ((s.data.toList.drop i).drop (Lex.tok1 i (s[i]'hlt) (s.data.toList.drop (i + 1))).text.length) else []) := by
        rw [Lex.drop_here hlt, Lex.lx_tok h1 h2]
      have hpos := Lex.tok1_pos i (s[i]'hlt) (s.data.toList.drop (i + 1))
      have hlen := fun h => Lex.tok1_len (p := i) (b := s[i]'hlt) (t := s.data.toList.drop (i + 1)) h
      have hle := Lex.tok1_text_le i (s[i]'hlt) (s.data.toList.drop (i + 1))
      rw [List.length_cons, List.length_drop] at hle
      generalize Lex.tok1 i (s[i]'hlt) (s.data.toList.drop (i + 1)) = x at hrun hpos hlen hle ⊢
      rw [hrun, Lex.run]
      by_cases he : x.err = 0
      · have hx : nx x = (x.kind, ⟨x.text.toArray⟩, x.n, (i : Int), 0) := by unfold nx; rw [if_pos he, hpos]
        have hz : ((⟨x.text.toArray⟩ : ByteArray).size : Int) = (x.text.length : Int) := by rw [Lib.size_eq]
        rw [hx, if_pos rfl, if_pos he, if_neg (not_not_intro he), List.length_map]
        by_cases h5 : out.length = 5000
        · rw [if_pos (by omega), if_pos h5, hpos]; rfl
        · have hl1 := hlen he
          rw [if_neg (by omega), if_neg h5, if_pos (by omega), hz, wrap_id (by omega) (by omega)]
          obtain ⟨j, e1, e2, e3, e4, e5⟩ := (gap_spec s hs _ (i + x.text.length) rfl (by omega)).1 k (by omega)
          have e1' : pandectref05_gap.f k s ((i : Int) + (x.text.length : Int)) = some (j : Int) := by
            unfold pandectref05_gap.f
            rw [← e1]; congr 1
          rw [e1', List.drop_drop, e4]
          simp only [Option.bind_some]
          have := ih j k (out ++ [x]) (by omega) e3 (by simp only [List.length_append, List.length_cons, List.length_nil]; omega) (by omega) e5
          rw [List.map_append] at this
          have ht : [x].map lexer_Lex.toS = [(⟨x.kind, ⟨x.text.toArray⟩, x.n, (i : Int)⟩ : S30)] := by
            show [(⟨x.kind, ⟨x.text.toArray⟩, x.n, (x.pos : Int)⟩ : S30)] = _
            rw [hpos]
          rw [ht] at this
          exact this
      · have hx : nx x = (0, ⟨#[]⟩, 0, 0, x.err) := by unfold nx; rw [if_neg he]
        rw [hx, if_neg he, if_neg he, if_pos he, hpos]; rfl
    · rw [pandectref05_Lex.l0, if_neg (by omega), List.drop_eq_nil_of_le (by omega)]; rfl

/-- The reference's Lex answers what the plain lexer answers. -/
theorem lex_f (s : ByteArray) (hs : s.size ≤ 1000000) (k : Nat) (hk : 5 * s.size + 200 ≤ k) : pandectref05_Lex.f k s = lexer_Lex.f s := by
  have hsn : s.data.toList.length = s.size := Array.length_toList
  unfold pandectref05_Lex.f lexer_Lex.f Lex.lex
  by_cases h : s.size > 20000
  · rw [if_pos (by omega), if_pos (by omega)]; rfl
  · rw [if_neg (by omega), if_neg (by omega)]
    obtain ⟨j, e1, e2, e3, e4, e5⟩ := (gap_spec s hs _ 0 rfl (by omega)).1 k (by omega)
    have e1' : pandectref05_gap.f k s 0 = some (j : Int) := e1
    rw [e1']
    simp only [Option.bind_some]
    have := lex_loop s hs s.size j k [] (by omega) e3 (by simp only [List.length_nil]; omega) (by omega) e5
    rw [List.map_nil] at this
    rw [this, ← e4, List.drop_zero]
    rfl
end Go.Proofs.YtjcleemflenaoaaDoor.LexRef
