/- Laws of the lexer as a plain function on lists: where a token stands; what stands before it. -/
import Derived.Test.YtjcleemflenaoaaDoorLexPure2
namespace Go.Proofs.YtjcleemflenaoaaDoor.Lex

theorem lx_at : ∀ p l (pre : List Fd) (x : Fd) (post : List Fd), lx p l = pre ++ x :: post → p ≤ x.pos ∧ ∃ b t, l.drop (x.pos - p) = b :: t ∧ cls b ≠ 1 ∧ cls b ≠ 2 ∧ x = tok1 x.pos b t := by
  refine lx_ind ?_ ?_ ?_ ?_ ?_
  · intro p pre x post h; rw [lx_nil] at h; simp at h
  · intro p b t h1 ih pre x post h
    rw [lx_blank h1] at h
    obtain ⟨i1, b', t', i2, i3⟩ := ih pre x post h
    refine ⟨by omega, b', t', ?_, i3⟩
    rw [show x.pos - p = (x.pos - (p + 1)) + 1 by omega, List.drop_succ_cons]; exact i2
  · intro p b t h2 ih pre x post h
    rw [lx_hash h2] at h
    obtain ⟨i1, b', t', i2, i3⟩ := ih pre x post h
    refine ⟨by omega, b', t', ?_, i3⟩
    rw [show x.pos - p = ((t.takeWhile notNl).length + (x.pos - (p + 1 + (t.takeWhile notNl).length))) + 1 by omega, List.drop_succ_cons, ← List.drop_drop, ← dropWhile_eq_drop]; exact i2
  · intro p b t h1 h2 he ih pre x post h
    rw [lx_tok h1 h2, if_pos he] at h
    cases pre with
    | nil =>
      simp only [List.nil_append, List.cons.injEq] at h
      obtain ⟨rfl, h⟩ := h
      rw [tok1_pos, Nat.sub_self]
      exact ⟨Nat.le_refl _, b, t, rfl, h1, h2, rfl⟩
    | cons y pre =>
      simp only [List.cons_append, List.cons.injEq] at h
      obtain ⟨rfl, h⟩ := h
      obtain ⟨i1, b', t', i2, i3⟩ := ih pre x post h
      refine ⟨by omega, b', t', ?_, i3⟩
      rw [show x.pos - p = (tok1 p b t).text.length + (x.pos - (p + (tok1 p b t).text.length)) by omega, ← List.drop_drop]; exact i2
  · intro p b t h1 h2 he pre x post h
    rw [lx_tok h1 h2, if_neg he] at h
    cases pre with
    | nil =>
      simp only [List.nil_append, List.cons.injEq] at h
      obtain ⟨rfl, h⟩ := h
      rw [tok1_pos, Nat.sub_self]
      exact ⟨Nat.le_refl _, b, t, rfl, h1, h2, rfl⟩
    | cons y pre => simp at h

/-- Before the first token there are only gaps. -/
theorem lx_first : ∀ p l (x : Fd) (post : List Fd), lx p l = x :: post → lx p (l.take (x.pos - p)) = [] := by
  refine lx_ind ?_ ?_ ?_ ?_ ?_
  · intro p x post h; rw [lx_nil] at h; simp at h
  · intro p b t h1 ih x post h
    have ha := lx_at (p + 1) t [] x post (by rw [lx_blank h1] at h; exact h)
    rw [lx_blank h1] at h
    rw [show x.pos - p = (x.pos - (p + 1)) + 1 by omega, List.take_succ_cons, lx_blank h1]; exact ih x post h
  · intro p b t h2 ih x post h
    rw [lx_hash h2] at h
    have ha := lx_at _ _ [] x post h
    rw [show x.pos - p = 1 + (t.takeWhile notNl).length + (x.pos - (p + 1 + (t.takeWhile notNl).length)) by omega, take_hash h2]; exact ih x post h
  · intro p b t h1 h2 he ih x post h
    rw [lx_tok h1 h2] at h
    simp only [List.cons.injEq] at h
    rw [← h.1, tok1_pos, Nat.sub_self]; rfl
  · intro p b t h1 h2 he x post h
    rw [lx_tok h1 h2] at h
    simp only [List.cons.injEq] at h
    rw [← h.1, tok1_pos, Nat.sub_self]; rfl

/-- Two tokens that follow each other directly: their bytes together are no single token. -/
theorem lx_adj {p : Nat} {l : List UInt8} {pre : List Fd} {x y : Fd} {post : List Fd} (h : lx p l = pre ++ x :: y :: post) (hx : x.err = 0) (hy : y.err = 0) (hp : x.pos + x.text.length = y.pos) :
    ∃ z w r, lx 0 (x.text ++ y.text) = z :: w :: r := by
  obtain ⟨a1, b, t, hd, h1, h2, ex⟩ := lx_at p l pre x (y :: post) h
  obtain ⟨_, s2, s3, _, _⟩ := lx_split p l pre x (y :: post) h hx
  have h' : lx p l = (pre ++ [x]) ++ y :: post := by rw [h, List.append_assoc]; rfl
  obtain ⟨a2, b2, t2, hd2, g1, g2, ey⟩ := lx_at p l (pre ++ [x]) y post h'
  obtain ⟨_, r2, r3, _, _⟩ := lx_split p l (pre ++ [x]) y post h' hy
  have he : (tok1 x.pos b t).err = 0 := by rw [← ex]; exact hx
  have hlx : 1 ≤ x.text.length := by have := tok1_len he; rw [← ex] at this; exact this
  have hey : (tok1 y.pos b2 t2).err = 0 := by rw [← ey]; exact hy
  have hly : 1 ≤ y.text.length := by have := tok1_len hey; rw [← ey] at this; exact this
  -- both stand in the text one behind the other
  have hcat : x.text ++ y.text = (b :: t).take (x.text.length + y.text.length) := by
    rw [List.take_add, ← hd, s3, List.drop_drop, show x.pos - p + x.text.length = y.pos - p by omega, r3]
  obtain ⟨n, hn⟩ : ∃ n, x.text.length + y.text.length = n + 1 := ⟨x.text.length + y.text.length - 1, by omega⟩
  rw [hn, List.take_succ_cons] at hcat
  have hz : tok1 0 b t = { x with pos := 0 } := by
    have := tok1_shift 0 x.pos b t
    rw [Nat.zero_add, ← ex] at this
    have h0 := tok1_pos 0 b t
    cases ht : tok1 0 b t with
    | mk k tx nn ps er =>
      rw [ht] at this h0
      simp only at h0
      subst h0
      rw [this]
      rfl
  have hze : (tok1 0 b t).err = 0 := by rw [hz]; exact hx
  have hzt : (tok1 0 b t).text = x.text := by rw [hz]
  have hcut : tok1 0 b (t.take n) = tok1 0 b t := tok1_cut hze (by rw [hzt]; omega)
  have hy0 : ∃ t3, y.text = b2 :: t3 := by
    obtain ⟨r, hr⟩ := tok1_text y.pos b2 t2
    rw [← ey] at hr
    cases hty : y.text with
    | nil => rw [hty] at hly; simp at hly
    | cons c t3 => rw [hty] at hr; simp only [List.cons_append, List.cons.injEq] at hr; exact ⟨t3, by rw [hr.1]⟩
  obtain ⟨t3, ht3⟩ := hy0
  refine ⟨tok1 0 b t, tok1 (0 + x.text.length) b2 t3, ?_⟩
  rw [hcat, lx_tok h1 h2, hcut, if_pos hze, hzt, ← hcat, List.drop_append_of_le_length (Nat.le_refl _), List.drop_length, List.nil_append, ht3, lx_tok g1 g2]
  exact ⟨_, rfl⟩
end Go.Proofs.YtjcleemflenaoaaDoor.Lex
