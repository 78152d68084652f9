/- Laws of the lexer as a plain function on lists: texts joined, cut behind a token, tokens written anew. -/
import Derived.Test.YtjcleemflenaoaaDoorLexPure
namespace Go.Proofs.YtjcleemflenaoaaDoor.Lex

/-- What may stand behind a token without being part of it. -/
def Sep : List UInt8 → Prop
  | [] => True
  | z :: _ => cls z = 1 ∨ cls z = 2

theorem tw_app {q : UInt8 → Bool} : ∀ (t : List UInt8) {r : List UInt8}, (∀ z r', r = z :: r' → q z = false) → (t ++ r).takeWhile q = t.takeWhile q ∧ (t ++ r).dropWhile q = t.dropWhile q ++ r
  | [], r, h => by
    cases r with
    | nil => exact ⟨rfl, rfl⟩
    | cons z r' =>
      have hz := h z r' rfl
      refine ⟨takeWhile_cons_no hz, ?_⟩
      rw [List.nil_append, List.dropWhile_cons, if_neg (by simp [hz])]; rfl
  | b :: t, r, h => by
    obtain ⟨i1, i2⟩ := tw_app t h
    cases hb : q b with
    | true => exact ⟨by rw [List.cons_append, takeWhile_cons_yes hb, takeWhile_cons_yes hb, i1], by rw [List.cons_append, List.dropWhile_cons, if_pos hb, List.dropWhile_cons, if_pos hb, i2]⟩
    | false => exact ⟨by rw [List.cons_append, takeWhile_cons_no hb, takeWhile_cons_no hb], by rw [List.cons_append, List.dropWhile_cons, if_neg (by simp [hb]), List.dropWhile_cons, if_neg (by simp [hb])]; rfl⟩
theorem tw_app2 {q : UInt8 → Bool} : ∀ (t : List UInt8) (r : List UInt8), t.dropWhile q ≠ [] → (t ++ r).takeWhile q = t.takeWhile q ∧ (t ++ r).dropWhile q = t.dropWhile q ++ r
  | [], r, h => absurd rfl h
  | b :: t, r, h => by
    cases hb : q b with
    | true =>
      rw [List.dropWhile_cons, if_pos hb] at h
      obtain ⟨i1, i2⟩ := tw_app2 t r h
      exact ⟨by rw [List.cons_append, takeWhile_cons_yes hb, takeWhile_cons_yes hb, i1], by rw [List.cons_append, List.dropWhile_cons, if_pos hb, List.dropWhile_cons, if_pos hb, i2]⟩
    | false => exact ⟨by rw [List.cons_append, takeWhile_cons_no hb, takeWhile_cons_no hb], by rw [List.cons_append, List.dropWhile_cons, if_neg (by simp [hb]), List.dropWhile_cons, if_neg (by simp [hb])]; rfl⟩

theorem tok1_ext {p : Nat} {b : UInt8} {t r : List UInt8} (hr : Sep r) : tok1 p b (t ++ r) = tok1 p b t := by
  have hz : ∀ z r', r = z :: r' → cls z = 1 ∨ cls z = 2 := by rintro z r' rfl; exact hr
  have w := tw_app (q := isWord) t (r := r) (fun z r' e => by unfold isWord; rcases hz z r' e with h | h <;> rw [h] <;> rfl)
  have d := tw_app (q := isDigit) t (r := r) (fun z r' e => by unfold isDigit; rcases hz z r' e with h | h <;> rw [h] <;> rfl)
  have hw : ∀ l : List UInt8, headWord (l ++ r) = headWord l := by
    intro l
    cases l with
    | nil =>
      cases r with
      | nil => rfl
      | cons z r' => show (cls z == 3 || cls z == 5) = false; rcases hr with h | h <;> rw [h] <;> rfl
    | cons x l => rfl
  have hq : ∀ l : List UInt8, headEq (l ++ r) = headEq l := by
    intro l
    cases l with
    | nil =>
      cases r with
      | nil => rfl
      | cons z r' =>
        show (z == 61) = false
        rw [beq_eq_false_iff_ne]
        rintro rfl
        rcases hr with h | h <;> exact absurd h (by decide)
    | cons x l => rfl
  unfold tok1
  rw [w.1, d.1, d.2, hw, hq]

theorem sep_nl (c : List UInt8) : Sep (10 :: c) := .inl (by decide)
theorem tok1_text_le (p : Nat) (b : UInt8) (t : List UInt8) : (tok1 p b t).text.length ≤ (b :: t).length := by
  obtain ⟨r, hr⟩ := tok1_text p b t
  rw [hr, List.length_append]; omega

/-- A line feed behind a text without an error. -/
theorem lx_nl_ok (c : List UInt8) : ∀ p l, (∀ f ∈ lx p l, f.err = 0) → lx p (l ++ 10 :: c) = lx p l ++ lx (p + l.length + 1) c := by
  refine lx_ind ?_ ?_ ?_ ?_ ?_
  · intro p _; rw [List.nil_append, lx_blank (by decide)]; rfl
  · intro p b t h1 ih h
    rw [lx_blank h1] at h
    rw [List.cons_append, lx_blank h1, lx_blank h1, ih h, List.length_cons]
    congr 2; omega
  · intro p b t h2 ih h
    rw [lx_hash h2] at h
    have e := tw_app (q := notNl) t (r := 10 :: c) (fun z r' e => by cases e; rfl)
    rw [List.cons_append, lx_hash h2, lx_hash h2, e.1, e.2, ih h]
    have hl : (t.dropWhile notNl).length + (t.takeWhile notNl).length = t.length := by
      have := takeWhile_len_le notNl t
      rw [dropWhile_eq_drop, List.length_drop]; omega
    congr 2; rw [List.length_cons]; omega
  · intro p b t h1 h2 he ih h
    rw [lx_tok h1 h2, if_pos he] at h
    have hl := tok1_text_le p b t
    rw [List.cons_append, lx_tok h1 h2, lx_tok h1 h2, tok1_ext (sep_nl c), if_pos he, if_pos he, ← List.cons_append, List.drop_append_of_le_length hl, ih (fun f hf => h f (List.mem_cons_of_mem _ hf)), List.cons_append, List.length_drop]
    congr 3; omega
  · intro p b t h1 h2 he h
    rw [lx_tok h1 h2, if_neg he] at h
    exact absurd (h _ List.mem_cons_self) he
/-- A line feed behind a text with an error. -/
theorem lx_nl_bad (c : List UInt8) : ∀ p l (pre : List Fd) (x : Fd), lx p l = pre ++ [x] → x.err ≠ 0 → lx p (l ++ 10 :: c) = pre ++ [x] := by
  refine lx_ind ?_ ?_ ?_ ?_ ?_
  · intro p pre x h; rw [lx_nil] at h; simp at h
  · intro p b t h1 ih pre x h hx
    rw [lx_blank h1] at h
    rw [List.cons_append, lx_blank h1]; exact ih pre x h hx
  · intro p b t h2 ih pre x h hx
    rw [lx_hash h2] at h
    have e := tw_app (q := notNl) t (r := 10 :: c) (fun z r' e => by cases e; rfl)
    rw [List.cons_append, lx_hash h2, e.1, e.2]; exact ih pre x h hx
  · intro p b t h1 h2 he ih pre x h hx
    rw [lx_tok h1 h2, if_pos he] at h
    cases pre with
    | nil => simp only [List.nil_append, List.cons.injEq] at h; rw [← h.1] at hx; exact absurd he hx
    | cons y pre =>
      simp only [List.cons_append, List.cons.injEq] at h
      obtain ⟨rfl, h⟩ := h
      have hl := tok1_text_le p b t
      rw [List.cons_append, lx_tok h1 h2, tok1_ext (sep_nl c), if_pos he, ← List.cons_append, List.drop_append_of_le_length hl, ih pre x h hx]; rfl
  · intro p b t h1 h2 he pre x h hx
    rw [lx_tok h1 h2, if_neg he] at h
    rw [List.cons_append, lx_tok h1 h2, tok1_ext (sep_nl c), if_neg he]; exact h

/-- Behind a text that ends with a token. -/
theorem lx_sep {r : List UInt8} (hr : Sep r) : ∀ p l (pre : List Fd) (x : Fd), lx p l = pre ++ [x] → (∀ f ∈ lx p l, f.err = 0) → x.pos + x.text.length = p + l.length → lx p (l ++ r) = lx p l ++ lx (p + l.length) r := by
  refine lx_ind ?_ ?_ ?_ ?_ ?_
  · intro p pre x h; rw [lx_nil] at h; simp at h
  · intro p b t h1 ih pre x h ho hx
    rw [lx_blank h1] at h ho
    rw [List.length_cons] at hx
    rw [List.cons_append, lx_blank h1, lx_blank h1, ih pre x h ho (by omega), List.length_cons]
    congr 2; omega
  · intro p b t h2 ih pre x h ho hx
    rw [lx_hash h2] at h ho
    have hne : t.dropWhile notNl ≠ [] := by intro e; rw [e, lx_nil] at h; simp at h
    have e := tw_app2 (q := notNl) t r hne
    have hl : (t.dropWhile notNl).length + (t.takeWhile notNl).length = t.length := by
      have := takeWhile_len_le notNl t
      rw [dropWhile_eq_drop, List.length_drop]; omega
    rw [List.length_cons] at hx
    rw [List.cons_append, lx_hash h2, lx_hash h2, e.1, e.2, ih pre x h ho (by omega), List.length_cons]
    congr 2; omega
  · intro p b t h1 h2 he ih pre x h ho hx
    rw [lx_tok h1 h2, if_pos he] at h ho
    have hl := tok1_text_le p b t
    rw [List.cons_append, lx_tok h1 h2, lx_tok h1 h2, tok1_ext hr, if_pos he, if_pos he, ← List.cons_append, List.drop_append_of_le_length hl]
    cases pre with
    | nil =>
      simp only [List.nil_append, List.cons.injEq] at h
      obtain ⟨rfl, h⟩ := h
      rw [tok1_pos] at hx
      have hd : (b :: t).drop (tok1 p b t).text.length = [] := List.drop_eq_nil_of_le (by omega)
      rw [hd, List.nil_append, lx_nil, List.cons_append, List.nil_append]
      congr 2
    | cons y pre =>
      simp only [List.cons_append, List.cons.injEq] at h
      obtain ⟨rfl, h⟩ := h
      rw [ih pre x h (fun f hf => ho f (List.mem_cons_of_mem _ hf)) (by rw [List.length_drop]; omega), List.cons_append, List.length_drop]
      congr 3; omega
  · intro p b t h1 h2 he pre x h ho hx
    rw [lx_tok h1 h2, if_neg he] at ho
    exact absurd (ho _ List.mem_cons_self) he

/-- A text cut behind one of its tokens. -/
theorem lx_split : ∀ p l (pre : List Fd) (x : Fd) (post : List Fd), lx p l = pre ++ x :: post → x.err = 0 →
    p ≤ x.pos ∧ x.pos + x.text.length ≤ p + l.length ∧ (l.drop (x.pos - p)).take x.text.length = x.text ∧ lx p (l.take (x.pos + x.text.length - p)) = pre ++ [x] ∧ lx (x.pos + x.text.length) (l.drop (x.pos + x.text.length - p)) = post := by
  refine lx_ind ?_ ?_ ?_ ?_ ?_
  · intro p pre x post h; rw [lx_nil] at h; simp at h
  · intro p b t h1 ih pre x post h hx
    rw [lx_blank h1] at h
    obtain ⟨i1, i2, i3, i4, i5⟩ := ih pre x post h hx
    have e : x.pos + x.text.length - p = (x.pos + x.text.length - (p + 1)) + 1 := by omega
    have e' : x.pos - p = (x.pos - (p + 1)) + 1 := by omega
    refine ⟨by omega, by rw [List.length_cons]; omega, ?_, ?_, ?_⟩
    · rw [e', List.drop_succ_cons]; exact i3
    · rw [e, List.take_succ_cons, lx_blank h1]; exact i4
    · rw [e, List.drop_succ_cons]; exact i5
  · intro p b t h2 ih pre x post h hx
    rw [lx_hash h2] at h
    obtain ⟨i1, i2, i3, i4, i5⟩ := ih pre x post h hx
    have hl := dropWhile_eq_drop notNl t
    have hlen : (t.dropWhile notNl).length + (t.takeWhile notNl).length = t.length := by
      have := takeWhile_len_le notNl t
      rw [hl, List.length_drop]; omega
    have e : x.pos + x.text.length - p = 1 + (t.takeWhile notNl).length + (x.pos + x.text.length - (p + 1 + (t.takeWhile notNl).length)) := by omega
    have e' : x.pos - p = ((t.takeWhile notNl).length + (x.pos - (p + 1 + (t.takeWhile notNl).length))) + 1 := by omega
    refine ⟨by omega, by rw [List.length_cons]; omega, ?_, ?_, ?_⟩
    · rw [e', List.drop_succ_cons, ← List.drop_drop, ← hl]; exact i3
    · rw [e, take_hash h2]; exact i4
    · rw [e, show 1 + (t.takeWhile notNl).length + (x.pos + x.text.length - (p + 1 + (t.takeWhile notNl).length)) = ((t.takeWhile notNl).length + (x.pos + x.text.length - (p + 1 + (t.takeWhile notNl).length))) + 1 by omega, List.drop_succ_cons, ← List.drop_drop, ← hl]; exact i5
  · intro p b t h1 h2 he ih pre x post h hx
    rw [lx_tok h1 h2, if_pos he] at h
    have h1l := tok1_len he
    have hl := tok1_text_le p b t
    cases pre with
    | nil =>
      simp only [List.nil_append, List.cons.injEq] at h
      obtain ⟨rfl, h⟩ := h
      rw [tok1_pos, Nat.sub_self, Nat.add_sub_cancel_left]
      refine ⟨Nat.le_refl _, by omega, tok1_take p b t, ?_, h⟩
      obtain ⟨n, hn⟩ : ∃ n, (tok1 p b t).text.length = n + 1 := ⟨(tok1 p b t).text.length - 1, by omega⟩
      rw [hn, List.take_succ_cons, lx_tok h1 h2, tok1_cut he (by omega), if_pos he, ← List.take_succ_cons, ← hn, List.drop_eq_nil_of_le (by rw [List.length_take]; omega), lx_nil]; rfl
    | cons y pre =>
      simp only [List.cons_append, List.cons.injEq] at h
      obtain ⟨rfl, h⟩ := h
      obtain ⟨i1, i2, i3, i4, i5⟩ := ih pre x post h hx
      rw [List.length_drop] at i2
      have e : x.pos + x.text.length - p = (tok1 p b t).text.length + (x.pos + x.text.length - (p + (tok1 p b t).text.length)) := by omega
      have e' : x.pos - p = (tok1 p b t).text.length + (x.pos - (p + (tok1 p b t).text.length)) := by omega
      obtain ⟨n, hn⟩ : ∃ n, x.pos + x.text.length - p = n + 1 := ⟨x.pos + x.text.length - p - 1, by omega⟩
      refine ⟨by omega, by omega, ?_, ?_, ?_⟩
      · rw [e', ← List.drop_drop]; exact i3
      · rw [hn, List.take_succ_cons, lx_tok h1 h2, tok1_cut he (by omega), if_pos he, ← List.take_succ_cons, ← hn, e, List.drop_take, Nat.add_sub_cancel_left, i4]; rfl
      · rw [e, ← List.drop_drop]; exact i5
  · intro p b t h1 h2 he pre x post h hx
    rw [lx_tok h1 h2, if_neg he] at h
    cases pre with
    | nil => simp only [List.nil_append, List.cons.injEq] at h; rw [← h.1] at hx; exact absurd hx he
    | cons y pre => simp at h

/-- A token without an error, wherever it stood. -/
def IsTok (x : Fd) : Prop := ∃ p b t, cls b ≠ 1 ∧ cls b ≠ 2 ∧ x = tok1 p b t ∧ (tok1 p b t).err = 0
theorem lx_isTok : ∀ p l, ∀ f ∈ lx p l, f.err = 0 → IsTok f := by
  refine lx_ind ?_ ?_ ?_ ?_ ?_
  · intro p f hf; rw [lx_nil] at hf; simp at hf
  · intro p b t h1 ih f hf; rw [lx_blank h1] at hf; exact ih f hf
  · intro p b t h2 ih f hf; rw [lx_hash h2] at hf; exact ih f hf
  · intro p b t h1 h2 he ih f hf h
    rw [lx_tok h1 h2, if_pos he] at hf
    rcases List.mem_cons.1 hf with rfl | hf
    · exact ⟨p, b, t, h1, h2, rfl, he⟩
    · exact ih f hf h
  · intro p b t h1 h2 he f hf h
    rw [lx_tok h1 h2, if_neg he] at hf
    rw [List.mem_singleton.1 hf] at h
    exact absurd h he
/-- Two tokens alike but for their places. -/
def core (f : Fd) : Int × List UInt8 × Int × Int := (f.kind, f.text, f.n, f.err)
theorem tok1_core (p q : Nat) (b : UInt8) (t : List UInt8) : core (tok1 p b t) = core (tok1 q b t) := by
  have h1 := tok1_shift 0 p b t
  have h2 := tok1_shift 0 q b t
  rw [Nat.zero_add] at h1 h2
  rw [h1, h2]; rfl
/-- A token's bytes, and what stands behind them. -/
theorem lx_token {x : Fd} (h : IsTok x) {r : List UInt8} (hr : Sep r) (q : Nat) : ∃ y, core y = core x ∧ y.pos = q ∧ lx q (x.text ++ r) = y :: lx (q + x.text.length) r := by
  obtain ⟨p, b, t, h1, h2, rfl, he⟩ := h
  have h1l := tok1_len he
  obtain ⟨n, hn⟩ : ∃ n, (tok1 p b t).text.length = n + 1 := ⟨(tok1 p b t).text.length - 1, by omega⟩
  have ht : (tok1 p b t).text = b :: t.take n := by rw [← tok1_take p b t, hn, List.take_succ_cons]
  have hc : tok1 p b (t.take n) = tok1 p b t := tok1_cut he (by omega)
  have hcore : core (tok1 q b (t.take n)) = core (tok1 p b t) := by rw [← hc]; exact tok1_core _ _ _ _
  have herr : (tok1 q b (t.take n)).err = 0 := by have := congrArg (fun z => z.2.2.2) hcore; exact this.trans he
  have htx : (tok1 q b (t.take n)).text = (tok1 p b t).text := congrArg (fun z => z.2.1) hcore
  refine ⟨tok1 q b (t.take n), hcore, tok1_pos _ _ _, ?_⟩
  rw [ht, List.cons_append, lx_tok h1 h2, tok1_ext hr, if_pos herr, htx, ← ht, ← List.cons_append, ← ht, List.drop_append_of_le_length (Nat.le_refl _), List.drop_length, List.nil_append]

/-- Tokens, each with one byte of a blank kind behind it. -/
def wr (z : UInt8) : List Fd → List UInt8
  | [] => []
  | x :: xs => x.text ++ z :: wr z xs
theorem lx_wr {z : UInt8} (hz : cls z = 1) : ∀ (xs : List Fd) (q : Nat), (∀ x ∈ xs, IsTok x) → (lx q (wr z xs)).map core = xs.map core
  | [], q, _ => rfl
  | x :: xs, q, h => by
    obtain ⟨y, hy, _, e⟩ := lx_token (h x List.mem_cons_self) (r := z :: wr z xs) (.inl hz) q
    rw [wr, e, List.map_cons, List.map_cons, hy, lx_blank hz, lx_wr hz xs _ (fun w hw => h w (List.mem_cons_of_mem _ hw))]
theorem wr_len (z : UInt8) : ∀ xs : List Fd, (wr z xs).length = (xs.map fun x => x.text.length + 1).sum
  | [] => rfl
  | x :: xs => by rw [wr, List.length_append, List.length_cons, wr_len z xs, List.map_cons, List.sum_cons]; omega
/-- The tokens' bytes are no more than the text's. -/
theorem lx_bytes : ∀ p l, (∀ f ∈ lx p l, f.err = 0) → ((lx p l).map fun x => x.text.length).sum ≤ l.length := by
  refine lx_ind ?_ ?_ ?_ ?_ ?_
  · intro p _; exact Nat.le_refl _
  · intro p b t h1 ih h; rw [lx_blank h1] at h ⊢; have := ih h; rw [List.length_cons]; omega
  · intro p b t h2 ih h; rw [lx_hash h2] at h ⊢; have := ih h; have := dropWhile_len notNl t; rw [List.length_cons]; omega
  · intro p b t h1 h2 he ih h
    rw [lx_tok h1 h2, if_pos he] at h ⊢
    have := ih (fun f hf => h f (List.mem_cons_of_mem _ hf))
    rw [List.length_drop] at this
    have := tok1_text_le p b t
    rw [List.map_cons, List.sum_cons]; omega
  · intro p b t h1 h2 he h
    rw [lx_tok h1 h2, if_neg he] at h
    exact absurd (h _ List.mem_cons_self) he
theorem sum_succ : ∀ xs : List Fd, (xs.map fun x => x.text.length + 1).sum = (xs.map fun x => x.text.length).sum + xs.length
  | [] => rfl
  | x :: xs => by simp only [List.map_cons, List.sum_cons, List.length_cons, sum_succ xs]; omega

end Go.Proofs.YtjcleemflenaoaaDoor.Lex
