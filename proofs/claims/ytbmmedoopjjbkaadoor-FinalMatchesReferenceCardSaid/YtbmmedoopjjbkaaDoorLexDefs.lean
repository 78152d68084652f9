/- The lexer as a plain function on lists of bytes: classes of bytes, the token at the head of a list, the list of tokens. No program in sight. -/
import Derived.Below
import Derived.Lib.Atoi
namespace Go.Proofs.YtbmmedoopjjbkaaDoor.Lex

/-- The class of a byte, as the program's table has it. -/
def clsN (n : Nat) : Nat :=
  if (97 ≤ n ∧ n ≤ 122) ∨ (65 ≤ n ∧ n ≤ 90) then 3
  else if 48 ≤ n ∧ n ≤ 57 then 4
  else if n = 32 ∨ n = 9 ∨ n = 10 then 1
  else if n = 59 ∨ n = 44 ∨ n = 46 ∨ n = 58 ∨ n = 40 ∨ n = 41 ∨ n = 91 ∨ n = 93 ∨ n = 123 ∨ n = 125 ∨ n = 61 then 6
  else if n = 60 ∨ n = 62 then 7
  else if n = 35 then 2
  else if n = 95 then 5
  else if n = 33 then 8
  else 0
def cls (b : UInt8) : Nat := clsN b.toNat
def isWord (b : UInt8) : Bool := cls b == 3 || cls b == 4 || cls b == 5
def isDigit (b : UInt8) : Bool := cls b == 4
def notNl (b : UInt8) : Bool := !(b == 10)

/-- What the iterator yields: a token, or an error. -/
structure Fd where
  kind : Int
  text : List UInt8
  n : Int
  pos : Nat
  err : Int

def decVal (w : List UInt8) : Int := w.foldl (fun a c => a * 10 + ((c.toNat : Int) - 48)) 0
/-- Does a list begin with a letter or an underline? -/
def headWord : List UInt8 → Bool
  | [] => false
  | x :: _ => cls x == 3 || cls x == 5
def headEq : List UInt8 → Bool
  | [] => false
  | x :: _ => x == 61

def tok1 (p : Nat) (b : UInt8) (t : List UInt8) : Fd :=
  if cls b = 3 then ⟨1, b :: t.takeWhile isWord, 0, p, if (t.takeWhile isWord).length + 1 > 24 then 2 else 0⟩
  else if cls b = 4 then
    (if (t.takeWhile isDigit).length + 1 > 7 ∨ headWord (t.dropWhile isDigit) = true then ⟨2, b :: t.takeWhile isDigit, 0, p, 4⟩
     else ⟨2, b :: t.takeWhile isDigit, decVal (b :: t.takeWhile isDigit), p, 0⟩)
  else if cls b = 6 then ⟨3, [b], 0, p, 0⟩
  else if cls b = 7 ∨ cls b = 8 then
    (if headEq t = true then ⟨3, [b, 61], 0, p, 0⟩ else ⟨3, [b], 0, p, if cls b = 8 then 3 else 0⟩)
  else ⟨0, [], 0, p, 3⟩

def lexL : Nat → Nat → List UInt8 → List Fd
  | 0, _, _ => []
  | _ + 1, _, [] => []
  | k + 1, p, b :: t =>
    if cls b = 1 then lexL k (p + 1) t
    else if cls b = 2 then lexL k (p + 1 + (t.takeWhile notNl).length) (t.dropWhile notNl)
    else if (tok1 p b t).err = 0 then tok1 p b t :: lexL k (p + (tok1 p b t).text.length) ((b :: t).drop (tok1 p b t).text.length)
    else [tok1 p b t]

def run : List Fd → List Fd → List Fd × Int × Int
  | out, [] => (out, 0, 0)
  | out, f :: fs => if f.err ≠ 0 then ([], f.err, f.pos) else if out.length = 5000 then ([], 2, f.pos) else run (out ++ [f]) fs

/-- All that Lex answers. -/
def lex (l : List UInt8) : List Fd × Int × Int :=
  if l.length > 20000 then ([], 2, -1) else run [] (lexL (l.length + 1) 0 l)

/-! Small facts for the walk. -/
theorem clsN_le (n : Nat) : clsN n ≤ 8 := by
  unfold clsN
  repeat (split; · omega)
  omega
theorem cls_le (b : UInt8) : cls b ≤ 8 := clsN_le _

theorem takeWhile_cons_yes {p : UInt8 → Bool} {b : UInt8} {t : List UInt8} (h : p b = true) : (b :: t).takeWhile p = b :: t.takeWhile p := by
  rw [List.takeWhile_cons, if_pos h]
theorem takeWhile_cons_no {p : UInt8 → Bool} {b : UInt8} {t : List UInt8} (h : p b = false) : (b :: t).takeWhile p = [] := by
  rw [List.takeWhile_cons, if_neg (by simp [h])]
theorem dropWhile_eq_drop (p : UInt8 → Bool) : ∀ l : List UInt8, l.dropWhile p = l.drop (l.takeWhile p).length
  | [] => rfl
  | b :: t => by
    cases h : p b with
    | true => rw [List.dropWhile_cons, if_pos h, takeWhile_cons_yes h, List.length_cons, List.drop_succ_cons]; exact dropWhile_eq_drop p t
    | false => rw [List.dropWhile_cons, if_neg (by simp [h]), takeWhile_cons_no h]; rfl
theorem takeWhile_len_le (p : UInt8 → Bool) : ∀ l : List UInt8, (l.takeWhile p).length ≤ l.length
  | [] => Nat.le_refl _
  | b :: t => by
    cases h : p b with
    | true => rw [takeWhile_cons_yes h]; have := takeWhile_len_le p t; simp only [List.length_cons]; omega
    | false => rw [takeWhile_cons_no h]; simp
theorem takeWhile_eq_take (p : UInt8 → Bool) : ∀ l : List UInt8, l.takeWhile p = l.take (l.takeWhile p).length
  | [] => rfl
  | b :: t => by
    cases h : p b with
    | true => rw [takeWhile_cons_yes h, List.length_cons, List.take_succ_cons, ← takeWhile_eq_take p t]
    | false => rw [takeWhile_cons_no h]; rfl

/-- How far a run of bytes goes from a place on. -/
def span (p : UInt8 → Bool) (l : List UInt8) (i : Nat) : Nat := i + ((l.drop i).takeWhile p).length
theorem span_le (p : UInt8 → Bool) (l : List UInt8) (i : Nat) (h : i ≤ l.length) : span p l i ≤ l.length := by
  unfold span
  have := takeWhile_len_le p (l.drop i)
  rw [List.length_drop] at this
  omega
theorem le_span (p : UInt8 → Bool) (l : List UInt8) (i : Nat) : i ≤ span p l i := Nat.le_add_right _ _
theorem span_end (p : UInt8 → Bool) (l : List UInt8) (i : Nat) (h : l.length ≤ i) : span p l i = i := by
  unfold span; rw [List.drop_eq_nil_of_le h]; rfl
theorem span_yes {p : UInt8 → Bool} {l : List UInt8} {i : Nat} (h : i < l.length) (hp : p l[i] = true) : span p l i = span p l (i + 1) := by
  unfold span; rw [List.drop_eq_getElem_cons h, takeWhile_cons_yes hp]; simp only [List.length_cons]; omega
theorem span_no {p : UInt8 → Bool} {l : List UInt8} {i : Nat} (h : i < l.length) (hp : p l[i] = false) : span p l i = i := by
  unfold span; rw [List.drop_eq_getElem_cons h, takeWhile_cons_no hp]; rfl

/-! The token at the head. -/
theorem tok1_pos (p : Nat) (b : UInt8) (t : List UInt8) : (tok1 p b t).pos = p := by
  unfold tok1
  by_cases h3 : cls b = 3
  · rw [if_pos h3]
  · rw [if_neg h3]
    by_cases h4 : cls b = 4
    · rw [if_pos h4]
      by_cases hb : (t.takeWhile isDigit).length + 1 > 7 ∨ headWord (t.dropWhile isDigit) = true
      · rw [if_pos hb]
      · rw [if_neg hb]
    · rw [if_neg h4]
      by_cases h6 : cls b = 6
      · rw [if_pos h6]
      · rw [if_neg h6]
        by_cases h7 : cls b = 7 ∨ cls b = 8
        · rw [if_pos h7]
          by_cases he : headEq t = true
          · rw [if_pos he]
          · rw [if_neg he]
        · rw [if_neg h7]

/-- The token's bytes stand at the head. -/
theorem tok1_text (p : Nat) (b : UInt8) (t : List UInt8) : ∃ r, b :: t = (tok1 p b t).text ++ r := by
  have pre : ∀ q : UInt8 → Bool, b :: t = (b :: t.takeWhile q) ++ t.dropWhile q := fun q => by rw [List.cons_append, List.takeWhile_append_dropWhile]
  unfold tok1
  by_cases h3 : cls b = 3
  · rw [if_pos h3]; exact ⟨_, pre isWord⟩
  · rw [if_neg h3]
    by_cases h4 : cls b = 4
    · rw [if_pos h4]
      by_cases hb : (t.takeWhile isDigit).length + 1 > 7 ∨ headWord (t.dropWhile isDigit) = true
      · rw [if_pos hb]; exact ⟨_, pre isDigit⟩
      · rw [if_neg hb]; exact ⟨_, pre isDigit⟩
    · rw [if_neg h4]
      by_cases h6 : cls b = 6
      · rw [if_pos h6]; exact ⟨t, rfl⟩
      · rw [if_neg h6]
        by_cases h7 : cls b = 7 ∨ cls b = 8
        · rw [if_pos h7]
          by_cases he : headEq t = true
          · rw [if_pos he]
            cases t with
            | nil => simp [headEq] at he
            | cons x r =>
              have : x = 61 := by simpa [headEq] using he
              subst this
              exact ⟨r, rfl⟩
          · rw [if_neg he]; exact ⟨t, rfl⟩
        · rw [if_neg h7]; exact ⟨b :: t, rfl⟩

/-- A token without an error is not empty. -/
theorem tok1_len {p : Nat} {b : UInt8} {t : List UInt8} (h : (tok1 p b t).err = 0) : 1 ≤ (tok1 p b t).text.length := by
  unfold tok1 at h ⊢
  by_cases h3 : cls b = 3
  · rw [if_pos h3]; simp
  · rw [if_neg h3] at h ⊢
    by_cases h4 : cls b = 4
    · rw [if_pos h4]
      by_cases hb : (t.takeWhile isDigit).length + 1 > 7 ∨ headWord (t.dropWhile isDigit) = true
      · rw [if_pos hb]; simp
      · rw [if_neg hb]; simp
    · rw [if_neg h4] at h ⊢
      by_cases h6 : cls b = 6
      · rw [if_pos h6]; simp
      · rw [if_neg h6] at h ⊢
        by_cases h7 : cls b = 7 ∨ cls b = 8
        · rw [if_pos h7]
          by_cases he : headEq t = true
          · rw [if_pos he]; simp
          · rw [if_neg he]; simp
        · rw [if_neg h7] at h; exact absurd (show (3 : Int) = 0 from h) (by decide)

theorem tok1_take (p : Nat) (b : UInt8) (t : List UInt8) : (b :: t).take (tok1 p b t).text.length = (tok1 p b t).text := by
  obtain ⟨r, hr⟩ := tok1_text p b t
  conv => lhs; rw [hr]
  rw [List.take_left]

theorem lexL_tok {k p : Nat} {b : UInt8} {t : List UInt8} (h1 : cls b ≠ 1) (h2 : cls b ≠ 2) :
    lexL (k + 1) p (b :: t) = tok1 p b t :: (if (tok1 p b t).err = 0 then lexL k (p + (tok1 p b t).text.length) ((b :: t).drop (tok1 p b t).text.length) else []) := by
  rw [lexL, if_neg h1, if_neg h2]
  by_cases he : (tok1 p b t).err = 0
  · rw [if_pos he, if_pos he]
  · rw [if_neg he, if_neg he]
theorem lexL_blank {k p : Nat} {b : UInt8} {t : List UInt8} (h1 : cls b = 1) : lexL (k + 1) p (b :: t) = lexL k (p + 1) t := by
  rw [lexL, if_pos h1]
theorem lexL_hash {k p : Nat} {b : UInt8} {t : List UInt8} (h2 : cls b = 2) : lexL (k + 1) p (b :: t) = lexL k (p + 1 + (t.takeWhile notNl).length) (t.dropWhile notNl) := by
  rw [lexL, if_neg (by omega), if_pos h2]
theorem lexL_nil (k p : Nat) : lexL k p [] = [] := by cases k <;> rfl

/-! The token at the head, by its class. -/
theorem tok1_name {p : Nat} {b : UInt8} {t : List UInt8} (h : cls b = 3) : tok1 p b t = ⟨1, b :: t.takeWhile isWord, 0, p, if (t.takeWhile isWord).length + 1 > 24 then 2 else 0⟩ := by
  unfold tok1; rw [if_pos h]
theorem tok1_bad {p : Nat} {b : UInt8} {t : List UInt8} (h : cls b = 4) (hb : (t.takeWhile isDigit).length + 1 > 7 ∨ headWord (t.dropWhile isDigit) = true) : tok1 p b t = ⟨2, b :: t.takeWhile isDigit, 0, p, 4⟩ := by
  unfold tok1; rw [if_neg (by omega), if_pos h, if_pos hb]
theorem tok1_num {p : Nat} {b : UInt8} {t : List UInt8} (h : cls b = 4) (hb : ¬ ((t.takeWhile isDigit).length + 1 > 7 ∨ headWord (t.dropWhile isDigit) = true)) : tok1 p b t = ⟨2, b :: t.takeWhile isDigit, decVal (b :: t.takeWhile isDigit), p, 0⟩ := by
  unfold tok1; rw [if_neg (by omega), if_pos h, if_neg hb]
theorem tok1_sym {p : Nat} {b : UInt8} {t : List UInt8} (h : cls b = 6) : tok1 p b t = ⟨3, [b], 0, p, 0⟩ := by
  unfold tok1; rw [if_neg (by omega), if_neg (by omega), if_pos h]
theorem tok1_two {p : Nat} {b : UInt8} {t : List UInt8} (h : cls b = 7 ∨ cls b = 8) (he : headEq t = true) : tok1 p b t = ⟨3, [b, 61], 0, p, 0⟩ := by
  unfold tok1; rw [if_neg (by omega), if_neg (by omega), if_neg (by omega), if_pos h, if_pos he]
theorem tok1_one {p : Nat} {b : UInt8} {t : List UInt8} (h : cls b = 7) (he : headEq t = false) : tok1 p b t = ⟨3, [b], 0, p, 0⟩ := by
  unfold tok1; rw [if_neg (by omega), if_neg (by omega), if_neg (by omega), if_pos (.inl h), if_neg (by simp [he]), if_neg (by omega)]
theorem tok1_bang {p : Nat} {b : UInt8} {t : List UInt8} (h : cls b = 8) (he : headEq t = false) : tok1 p b t = ⟨3, [b], 0, p, 3⟩ := by
  unfold tok1; rw [if_neg (by omega), if_neg (by omega), if_neg (by omega), if_pos (.inr h), if_neg (by simp [he]), if_pos h]
theorem tok1_other {p : Nat} {b : UInt8} {t : List UInt8} (h : cls b = 0 ∨ cls b = 5) : tok1 p b t = ⟨0, [], 0, p, 3⟩ := by
  unfold tok1; rw [if_neg (by omega), if_neg (by omega), if_neg (by omega), if_neg (by omega)]

theorem cls_digit {b : UInt8} (h : cls b = 4) : 48 ≤ b.toNat ∧ b.toNat ≤ 57 := by
  unfold cls clsN at h
  by_cases h1 : (97 ≤ b.toNat ∧ b.toNat ≤ 122) ∨ (65 ≤ b.toNat ∧ b.toNat ≤ 90)
  · rw [if_pos h1] at h; omega
  · rw [if_neg h1] at h
    by_cases h2 : 48 ≤ b.toNat ∧ b.toNat ≤ 57
    · exact h2
    · rw [if_neg h2] at h
      exfalso
      revert h
      repeat' split
      all_goals omega
theorem decFrom_digits : ∀ (l : List UInt8) (acc : Nat), (∀ b ∈ l, cls b = 4) → ∃ n : Nat, Lib.decFrom acc l = some n ∧ (n : Int) = l.foldl (fun a c => a * 10 + ((c.toNat : Int) - 48)) (acc : Int)
  | [], acc, _ => ⟨acc, rfl, rfl⟩
  | b :: l, acc, h => by
    have hd := cls_digit (h b List.mem_cons_self)
    obtain ⟨n, h1, h2⟩ := decFrom_digits l (acc * 10 + (b.toNat - 48)) (fun x hx => h x (List.mem_cons_of_mem _ hx))
    refine ⟨n, ?_, ?_⟩
    · rw [Lib.decFrom, show Lib.digitVal b = some (b.toNat - 48) from if_pos hd]; exact h1
    · rw [h2, List.foldl_cons]; congr 1; omega
theorem atoi_digits (b : UInt8) (l : List UInt8) (h : ∀ x ∈ b :: l, cls x = 4) : Lib.atoi (b :: l) = some (decVal (b :: l)) := by
  have hd := cls_digit (h b List.mem_cons_self)
  obtain ⟨n, h1, h2⟩ := decFrom_digits (b :: l) 0 h
  have n1 : (b == 45) = false := by rw [beq_eq_false_iff_ne]; rintro rfl; exact absurd hd (by decide)
  have n2 : (b == 43) = false := by rw [beq_eq_false_iff_ne]; rintro rfl; exact absurd hd (by decide)
  rw [Lib.atoi, n1, n2]
  simp only [Bool.false_eq_true, if_false]
  rw [Lib.decNat, show (b :: l).isEmpty = false from rfl]
  simp only [Bool.false_eq_true, if_false, h1, Option.map_some]
  rw [h2]; rfl
theorem mem_tw {p : UInt8 → Bool} {x : UInt8} : ∀ {t : List UInt8}, x ∈ t.takeWhile p → p x = true
  | [], h => by simp at h
  | b :: t, h => by
    cases hb : p b with
    | true =>
      rw [takeWhile_cons_yes hb] at h
      rcases List.mem_cons.1 h with rfl | h
      · exact hb
      · exact mem_tw h
    | false => rw [takeWhile_cons_no hb] at h; simp at h
theorem takeWhile_digits (t : List UInt8) : ∀ x ∈ t.takeWhile isDigit, cls x = 4 := fun x hx => by
  have := mem_tw hx
  simpa [isDigit] using this

end Go.Proofs.YtbmmedoopjjbkaaDoor.Lex
