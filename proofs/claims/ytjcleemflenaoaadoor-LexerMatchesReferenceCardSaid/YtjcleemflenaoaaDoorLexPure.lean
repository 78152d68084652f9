/- Laws of the lexer as a plain function on lists: fuel, shifts, cuts at tokens, texts joined. -/
import Derived.Test.YtjcleemflenaoaaDoorLexDefs
namespace Go.Proofs.YtjcleemflenaoaaDoor.Lex

theorem hash_ne (b : UInt8) (h : cls b = 2) : b = 35 := by
  unfold cls clsN at h
  repeat' (split at h <;> try omega)
  rename_i h35
  exact UInt8.toNat_inj.1 h35

theorem drop_len_lt {b : UInt8} {t : List UInt8} {n : Nat} (h : 1 ≤ n) : ((b :: t).drop n).length < (b :: t).length := by
  rw [List.length_drop, List.length_cons]; omega
theorem dropWhile_len (q : UInt8 → Bool) (t : List UInt8) : (t.dropWhile q).length ≤ t.length := by
  rw [dropWhile_eq_drop, List.length_drop]; omega

/-- Enough rounds tell the same. -/
theorem lexL_fuel : ∀ (n : Nat) (l : List UInt8) (k k' p : Nat), l.length ≤ n → l.length < k → l.length < k' → lexL k p l = lexL k' p l := by
  intro n
  induction n with
  | zero =>
    intro l k k' p h0 hk hk'
    have : l = [] := List.length_eq_zero_iff.1 (by omega)
    subst this
    rw [lexL_nil, lexL_nil]
  | succ n ih =>
    intro l k k' p h0 hk hk'
    cases l with
    | nil => rw [lexL_nil, lexL_nil]
    | cons b t =>
      simp only [List.length_cons] at h0 hk hk'
      obtain ⟨k, rfl⟩ : ∃ m, k = m + 1 := ⟨k - 1, by omega⟩
      obtain ⟨k', rfl⟩ : ∃ m, k' = m + 1 := ⟨k' - 1, by omega⟩
      by_cases h1 : cls b = 1
      · rw [lexL_blank h1, lexL_blank h1]; exact ih t k k' _ (by omega) (by omega) (by omega)
      · by_cases h2 : cls b = 2
        · have := dropWhile_len notNl t
          rw [lexL_hash h2, lexL_hash h2]; exact ih _ k k' _ (by omega) (by omega) (by omega)
        · rw [lexL_tok h1 h2, lexL_tok h1 h2]
          by_cases he : (tok1 p b t).err = 0
          · rw [if_pos he, if_pos he]
            have := drop_len_lt (b := b) (t := t) (tok1_len he)
            simp only [List.length_cons] at this
            rw [ih _ k k' _ (by omega) (by omega) (by omega)]
          · rw [if_neg he, if_neg he]

/-- All tokens of a list of bytes. -/
def lx (p : Nat) (l : List UInt8) : List Fd := lexL (l.length + 1) p l
theorem lx_nil (p : Nat) : lx p [] = [] := rfl
theorem lx_blank {p : Nat} {b : UInt8} {t : List UInt8} (h1 : cls b = 1) : lx p (b :: t) = lx (p + 1) t := by
  rw [lx, lexL_blank h1]; rfl
theorem lx_hash {p : Nat} {b : UInt8} {t : List UInt8} (h2 : cls b = 2) : lx p (b :: t) = lx (p + 1 + (t.takeWhile notNl).length) (t.dropWhile notNl) := by
  rw [lx, lexL_hash h2, lx]
  have := dropWhile_len notNl t
  exact lexL_fuel _ _ _ _ _ (Nat.le_refl _) (by simp only [List.length_cons]; omega) (by omega)
theorem lx_tok {p : Nat} {b : UInt8} {t : List UInt8} (h1 : cls b ≠ 1) (h2 : cls b ≠ 2) :
    lx p (b :: t) = tok1 p b t :: (if (tok1 p b t).err = 0 then lx (p + (tok1 p b t).text.length) ((b :: t).drop (tok1 p b t).text.length) else []) := by
  rw [lx, lexL_tok h1 h2]
  by_cases he : (tok1 p b t).err = 0
  · rw [if_pos he, if_pos he, lx]
    have := drop_len_lt (b := b) (t := t) (tok1_len he)
    rw [lexL_fuel _ _ (b :: t).length _ _ (Nat.le_refl _) this (Nat.lt_succ_self _)]
  · rw [if_neg he, if_neg he]

/-- A law by the four ways of a list: end, blank, comment, token. -/
theorem lx_ind {M : Nat → List UInt8 → Prop} (h0 : ∀ p, M p [])
    (hb : ∀ p b t, cls b = 1 → M (p + 1) t → M p (b :: t))
    (hc : ∀ p b t, cls b = 2 → M (p + 1 + (t.takeWhile notNl).length) (t.dropWhile notNl) → M p (b :: t))
    (ht : ∀ p b t, cls b ≠ 1 → cls b ≠ 2 → (tok1 p b t).err = 0 → M (p + (tok1 p b t).text.length) ((b :: t).drop (tok1 p b t).text.length) → M p (b :: t))
    (he : ∀ p b t, cls b ≠ 1 → cls b ≠ 2 → (tok1 p b t).err ≠ 0 → M p (b :: t)) : ∀ p l, M p l := by
  have main : ∀ (n : Nat) (l : List UInt8) (p : Nat), l.length ≤ n → M p l := by
    intro n
    induction n with
    | zero =>
      intro l p h
      have : l = [] := List.length_eq_zero_iff.1 (by omega)
      subst this
      exact h0 p
    | succ n ih =>
      intro l p h
      cases l with
      | nil => exact h0 p
      | cons b t =>
        simp only [List.length_cons] at h
        by_cases h1 : cls b = 1
        · exact hb p b t h1 (ih _ _ (by omega))
        · by_cases h2 : cls b = 2
          · have := dropWhile_len notNl t
            exact hc p b t h2 (ih _ _ (by omega))
          · by_cases hx : (tok1 p b t).err = 0
            · have := drop_len_lt (b := b) (t := t) (tok1_len hx)
              simp only [List.length_cons] at this
              exact ht p b t h1 h2 hx (ih _ _ (by omega))
            · exact he p b t h1 h2 hx
  exact fun p l => main l.length l p (Nat.le_refl _)

def shift (d : Nat) (f : Fd) : Fd := { f with pos := f.pos + d }
theorem tok1_shift (p d : Nat) (b : UInt8) (t : List UInt8) : tok1 (p + d) b t = shift d (tok1 p b t) := by
  unfold tok1
  by_cases h3 : cls b = 3
  · rw [if_pos h3, if_pos h3]; rfl
  · rw [if_neg h3, if_neg h3]
    by_cases h4 : cls b = 4
    · rw [if_pos h4, if_pos h4]
      by_cases hb : (t.takeWhile isDigit).length + 1 > 7 ∨ headWord (t.dropWhile isDigit) = true
      · rw [if_pos hb, if_pos hb]; rfl
      · rw [if_neg hb, if_neg hb]; rfl
    · rw [if_neg h4, if_neg h4]
      by_cases h6 : cls b = 6
      · rw [if_pos h6, if_pos h6]; rfl
      · rw [if_neg h6, if_neg h6]
        by_cases h7 : cls b = 7 ∨ cls b = 8
        · rw [if_pos h7, if_pos h7]
          by_cases he : headEq t = true
          · rw [if_pos he, if_pos he]; rfl
          · rw [if_neg he, if_neg he]; rfl
        · rw [if_neg h7, if_neg h7]; rfl
theorem lx_shift (d : Nat) : ∀ p l, lx (p + d) l = (lx p l).map (shift d) := by
  refine lx_ind (fun p => rfl) ?_ ?_ ?_ ?_
  · intro p b t h1 ih
    rw [lx_blank h1, lx_blank h1, ← ih]; congr 1; omega
  · intro p b t h2 ih
    rw [lx_hash h2, lx_hash h2, ← ih]; congr 1; omega
  · intro p b t h1 h2 he ih
    rw [lx_tok h1 h2, lx_tok h1 h2, tok1_shift, if_pos he, if_pos (show (shift d (tok1 p b t)).err = 0 from he), List.map_cons, ← ih]
    congr 2; show p + d + (tok1 p b t).text.length = _; omega
  · intro p b t h1 h2 he
    rw [lx_tok h1 h2, lx_tok h1 h2, tok1_shift, if_neg he, if_neg (show ¬ (shift d (tok1 p b t)).err = 0 from he)]; rfl
theorem lx_zero (p : Nat) (l : List UInt8) : lx p l = (lx 0 l).map (shift p) := by
  have := lx_shift p 0 l
  rwa [Nat.zero_add] at this

theorem lx_len : ∀ p l, (lx p l).length ≤ l.length := by
  refine lx_ind (fun p => Nat.le_refl _) ?_ ?_ ?_ ?_
  · intro p b t h1 ih; rw [lx_blank h1, List.length_cons]; omega
  · intro p b t h2 ih; rw [lx_hash h2, List.length_cons]; have := dropWhile_len notNl t; omega
  · intro p b t h1 h2 he ih
    rw [lx_tok h1 h2, if_pos he, List.length_cons, List.length_cons]
    rw [List.length_drop, List.length_cons] at ih
    have := tok1_len he
    omega
  · intro p b t h1 h2 he; rw [lx_tok h1 h2, if_neg he]; simp

/-! ### Cut texts -/
theorem tw_take (q : UInt8 → Bool) : ∀ (t : List UInt8) (n : Nat), (t.takeWhile q).length ≤ n → (t.take n).takeWhile q = t.takeWhile q
  | [], n, _ => by simp
  | b :: t, n, h => by
    cases hb : q b with
    | true =>
      rw [takeWhile_cons_yes hb, List.length_cons] at h
      obtain ⟨n, rfl⟩ : ∃ m, n = m + 1 := ⟨n - 1, by omega⟩
      rw [List.take_succ_cons, takeWhile_cons_yes hb, takeWhile_cons_yes hb, tw_take q t n (by omega)]
    | false =>
      rw [takeWhile_cons_no hb]
      cases n with
      | zero => rfl
      | succ n => rw [List.take_succ_cons, takeWhile_cons_no hb]
theorem headWord_take (l : List UInt8) (n : Nat) (h : headWord l = false) : headWord (l.take n) = false := by
  cases l with
  | nil => simpa using h
  | cons x r => cases n with
    | zero => rfl
    | succ n => exact h
theorem headEq_take {l : List UInt8} {n : Nat} (h : headEq l = false) : headEq (l.take n) = false := by
  cases l with
  | nil => simpa using h
  | cons x r => cases n with
    | zero => rfl
    | succ n => exact h
/-- A token stands, whatever is cut off behind it. -/
theorem tok1_cut {p : Nat} {b : UInt8} {t : List UInt8} (he : (tok1 p b t).err = 0) {n : Nat} (hn : (tok1 p b t).text.length ≤ n + 1) : tok1 p b (t.take n) = tok1 p b t := by
  by_cases h3 : cls b = 3
  · rw [tok1_name h3] at hn
    simp only [List.length_cons] at hn
    rw [tok1_name h3, tok1_name h3, tw_take isWord t n (by omega)]
  · by_cases h4 : cls b = 4
    · by_cases hb : (t.takeWhile isDigit).length + 1 > 7 ∨ headWord (t.dropWhile isDigit) = true
      · rw [tok1_bad h4 hb] at he; exact absurd (show (4 : Int) = 0 from he) (by decide)
      · rw [tok1_num h4 hb] at hn
        simp only [List.length_cons] at hn
        have e := tw_take isDigit t n (by omega)
        have hw : headWord ((t.take n).dropWhile isDigit) = false := by
          rw [dropWhile_eq_drop, e, List.drop_take, ← dropWhile_eq_drop]
          exact headWord_take _ _ (by simpa using fun h => hb (.inr h))
        rw [tok1_num h4 hb, tok1_num h4 (by rw [e, hw]; simp only [Bool.false_eq_true, or_false]; omega), e]
    · by_cases h6 : cls b = 6
      · rw [tok1_sym h6, tok1_sym h6]
      · by_cases h7 : cls b = 7 ∨ cls b = 8
        · cases hq : headEq t with
          | true =>
            rw [tok1_two h7 hq] at hn
            simp only [List.length_cons, List.length_nil] at hn
            rw [tok1_two h7 hq, tok1_two h7]
            cases t with
            | nil => simp [headEq] at hq
            | cons x r =>
              obtain ⟨n, rfl⟩ : ∃ m, n = m + 1 := ⟨n - 1, by omega⟩
              exact hq
          | false =>
            rcases h7 with h7 | h7
            · rw [tok1_one h7 hq, tok1_one h7 (headEq_take hq)]
            · rw [tok1_bang h7 hq, tok1_bang h7 (headEq_take hq)]
        · have h9 := cls_le b
          -- no other class begins a token
          by_cases hx : cls b = 0 ∨ cls b = 5
          · rw [tok1_other hx, tok1_other hx]
          · have h12 : cls b = 1 ∨ cls b = 2 := by omega
            exfalso
            unfold tok1 at he
            rw [if_neg h3, if_neg h4, if_neg h6, if_neg h7] at he
            exact absurd (show (3 : Int) = 0 from he) (by decide)

theorem take_hash {b : UInt8} {t : List UInt8} (h2 : cls b = 2) (p m : Nat) : lx p ((b :: t).take (1 + (t.takeWhile notNl).length + m)) = lx (p + 1 + (t.takeWhile notNl).length) ((t.dropWhile notNl).take m) := by
  rw [show 1 + (t.takeWhile notNl).length + m = ((t.takeWhile notNl).length + m) + 1 by omega, List.take_succ_cons, lx_hash h2]
  have e := tw_take notNl t ((t.takeWhile notNl).length + m) (by omega)
  rw [dropWhile_eq_drop notNl (t.take _), e, List.drop_take, ← dropWhile_eq_drop, Nat.add_sub_cancel_left]

/-- With an error: the text before it has none, and the text from there on has the same. -/
theorem lx_error : ∀ (p : Nat) (l : List UInt8) (pre : List Fd) (x : Fd), lx p l = pre ++ [x] → x.err ≠ 0 →
    p ≤ x.pos ∧ x.pos < p + l.length ∧ lx p (l.take (x.pos - p)) = pre ∧ lx x.pos (l.drop (x.pos - p)) = [x] := by
  refine lx_ind ?_ ?_ ?_ ?_ ?_
  · intro p pre x h; rw [lx_nil] at h; simp at h
  · intro p b t h1 ih pre x h hx
    rw [lx_blank h1] at h
    obtain ⟨i1, i2, i3, i4⟩ := ih pre x h hx
    have e : x.pos - p = (x.pos - (p + 1)) + 1 := by omega
    refine ⟨by omega, by simp only [List.length_cons]; omega, ?_, ?_⟩
    · rw [e, List.take_succ_cons, lx_blank h1]; exact i3
    · rw [e, List.drop_succ_cons]; exact i4
  · intro p b t h2 ih pre x h hx
    rw [lx_hash h2] at h
    obtain ⟨i1, i2, i3, i4⟩ := ih pre x h hx
    have hl := dropWhile_eq_drop notNl t
    have hlen : (t.dropWhile notNl).length + (t.takeWhile notNl).length = t.length := by
      have := takeWhile_len_le notNl t
      rw [hl, List.length_drop]; omega
    have e : x.pos - p = 1 + (t.takeWhile notNl).length + (x.pos - (p + 1 + (t.takeWhile notNl).length)) := by omega
    refine ⟨by omega, by simp only [List.length_cons]; omega, ?_, ?_⟩
    · rw [e, take_hash h2]; exact i3
    · rw [e, show 1 + (t.takeWhile notNl).length + (x.pos - (p + 1 + (t.takeWhile notNl).length)) = ((t.takeWhile notNl).length + (x.pos - (p + 1 + (t.takeWhile notNl).length))) + 1 by omega, List.drop_succ_cons, ← List.drop_drop, ← hl]; exact i4
  · intro p b t h1 h2 he ih pre x h hx
    rw [lx_tok h1 h2, if_pos he] at h
    cases pre with
    | nil => simp only [List.nil_append, List.cons.injEq] at h; rw [← h.1] at hx; exact absurd he hx
    | cons y pre =>
      simp only [List.cons_append, List.cons.injEq] at h
      obtain ⟨rfl, h⟩ := h
      obtain ⟨i1, i2, i3, i4⟩ := ih pre x h hx
      have h1l := tok1_len he
      obtain ⟨r, hr⟩ := tok1_text p b t
      have hlen : (tok1 p b t).text.length ≤ (b :: t).length := by rw [hr, List.length_append]; omega
      rw [List.length_drop] at i2
      have e : x.pos - p = (tok1 p b t).text.length + (x.pos - (p + (tok1 p b t).text.length)) := by omega
      obtain ⟨n, hn⟩ : ∃ n, x.pos - p = n + 1 := ⟨x.pos - p - 1, by omega⟩
      refine ⟨by omega, by omega, ?_, ?_⟩
      · rw [hn, List.take_succ_cons, lx_tok h1 h2, tok1_cut he (by omega), if_pos he, ← List.take_succ_cons, ← hn, e, List.drop_take, Nat.add_sub_cancel_left, i3]
      · rw [e, ← List.drop_drop]; exact i4
  · intro p b t h1 h2 he pre x h hx
    rw [lx_tok h1 h2, if_neg he] at h
    have hp : pre = [] ∧ tok1 p b t = x := by
      cases pre with
      | nil => simpa using h
      | cons y pre => simp at h
    obtain ⟨rfl, rfl⟩ := hp
    rw [tok1_pos, Nat.sub_self]
    refine ⟨Nat.le_refl _, by simp, rfl, ?_⟩
    rw [List.drop_zero, lx_tok h1 h2, if_neg he]

end Go.Proofs.YtjcleemflenaoaaDoor.Lex
