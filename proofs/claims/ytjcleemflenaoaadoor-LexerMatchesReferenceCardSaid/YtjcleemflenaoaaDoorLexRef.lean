/- The reference's gap and next, as the print tells them: what they answer, in the words of the plain lexer. -/
import Derived.Test.YtjcleemflenaoaaDoorLexPure2
import Derived.Test.YtjcleemflenaoaaDoorLexIter
import Derived.Test.YtjcleemflenaoaaDoorH4
import Derived.Test.YtjcleemflenaoaaDoorH8
namespace Go.Proofs.YtjcleemflenaoaaDoor.LexRef
open Go.RowKit Go.Proofs.YtjcleemflenaoaaDoor.H Go.Proofs.YtjcleemflenaoaaDoorW.PrintWords Go.Proofs.YtjcleemflenaoaaDoorW.PrintLast
set_option linter.unusedVariables false

theorem wrap_id {x : Int} (h0 : -9223372036854775808 ≤ x) (h1 : x ≤ 9223372036854775807) : wrap64 x = x := by
  unfold wrap64
  omega
theorem bt_here {s : ByteArray} {i : Nat} (h : i < s.size) : bt s (i : Int) = ((s[i]'h).toNat : Int) := by
  unfold bt
  simp [h]
theorem has_loop (s : ByteArray) (hs : s.size ≤ 1000000) (c : Int) : ∀ (d i k : Nat), s.size - i = d → i ≤ s.size → d < k →
    pandectref05_has.l0 k s c (i : Int) = some ((s.data.toList.drop i).any fun x => decide ((x.toNat : Int) = c)) := by
  have hsn : s.data.toList.length = s.size := Array.length_toList
  intro d
  induction d with
  | zero =>
    intro i k hd hi hk
    obtain ⟨k, rfl⟩ : ∃ m, k = m + 1 := ⟨k - 1, by omega⟩
    rw [pandectref05_has.l0, if_neg (by omega), List.drop_eq_nil_of_le (by omega)]; rfl
  | succ d ih =>
    intro i k hd hi hk
    obtain ⟨k, rfl⟩ : ∃ m, k = m + 1 := ⟨k - 1, by omega⟩
    have hlt : i < s.size := by omega
    rw [pandectref05_has.l0, if_pos (by omega), if_pos (by omega), bt_here hlt, Lex.drop_here hlt, List.any_cons]
    by_cases h : ((s[i]'hlt).toNat : Int) = c
    · rw [if_pos h, decide_eq_true h, Bool.true_or]
    · rw [if_neg h, decide_eq_false h, Bool.false_or, wrap_id (by omega) (by omega)]
      exact ih (i + 1) k (by omega) (by omega) (by omega)
theorem has_f (s : ByteArray) (hs : s.size ≤ 1000000) (c : Int) (k : Nat) (hk : s.size < k) : pandectref05_has.f k s c = some (s.data.toList.any fun x => decide ((x.toNat : Int) = c)) := by
  have := has_loop s hs c s.size 0 k (by omega) (by omega) hk
  rw [List.drop_zero] at this
  exact this
theorem has3 (b : UInt8) (k : Nat) (hk : 3 < k) : pandectref05_has.f k (⟨#[32, 9, 10]⟩ : ByteArray) (b.toNat : Int) = some (decide (Lex.cls b = 1)) := by
  rw [has_f _ (by decide) _ _ hk]
  have h : ∀ n : Fin 256, ((⟨#[32, 9, 10]⟩ : ByteArray).data.toList.any fun x => decide ((x.toNat : Int) = (n.val : Int))) = decide (Lex.clsN n.val = 1) := by decide +kernel
  exact congrArg some (h ⟨b.toNat, b.toNat_lt⟩)
theorem hasA (b : UInt8) (k : Nat) (hk : 3 < k) : pandectref05_has.f k (⟨#[33, 60, 62]⟩ : ByteArray) (b.toNat : Int) = some (decide (Lex.cls b = 7 ∨ Lex.cls b = 8)) := by
  rw [has_f _ (by decide) _ _ hk]
  have h : ∀ n : Fin 256, ((⟨#[33, 60, 62]⟩ : ByteArray).data.toList.any fun x => decide ((x.toNat : Int) = (n.val : Int))) = decide (Lex.clsN n.val = 7 ∨ Lex.clsN n.val = 8) := by decide +kernel
  exact congrArg some (h ⟨b.toNat, b.toNat_lt⟩)
theorem hasB (b : UInt8) (k : Nat) (hk : 13 < k) : pandectref05_has.f k (⟨#[59, 44, 46, 58, 40, 41, 91, 93, 123, 125, 61, 60, 62]⟩ : ByteArray) (b.toNat : Int) = some (decide (Lex.cls b = 6 ∨ Lex.cls b = 7)) := by
  rw [has_f _ (by decide) _ _ hk]
  have h : ∀ n : Fin 256, ((⟨#[59, 44, 46, 58, 40, 41, 91, 93, 123, 125, 61, 60, 62]⟩ : ByteArray).data.toList.any fun x => decide ((x.toNat : Int) = (n.val : Int))) = decide (Lex.clsN n.val = 6 ∨ Lex.clsN n.val = 7) := by decide +kernel
  exact congrArg some (h ⟨b.toNat, b.toNat_lt⟩)
def isWordN (n : Nat) : Bool := Lex.clsN n == 3 || Lex.clsN n == 4 || Lex.clsN n == 5
theorem letter_f (b : UInt8) : pandectref05_letter.f (b.toNat : Int) = some (decide (Lex.cls b = 3)) := by
  have h : ∀ n : Fin 256, pandectref05_letter.f (n.val : Int) = some (decide (Lex.clsN n.val = 3)) := by decide +kernel
  exact h ⟨b.toNat, b.toNat_lt⟩
theorem digit_f (b : UInt8) : pandectref05_digit.f (b.toNat : Int) = some (Lex.isDigit b) := by
  have h : ∀ n : Fin 256, pandectref05_digit.f (n.val : Int) = some (Lex.clsN n.val == 4) := by decide +kernel
  exact h ⟨b.toNat, b.toNat_lt⟩
theorem word_f (b : UInt8) : pandectref05_word.f (b.toNat : Int) = some (Lex.isWord b) := by
  have h : ∀ n : Fin 256, pandectref05_word.f (n.val : Int) = some (isWordN n.val) := by decide +kernel
  exact h ⟨b.toNat, b.toNat_lt⟩
theorem cls_hash (y : UInt8) : Lex.cls y = 2 ↔ (y.toNat : Int) = 35 := by
  have h : ∀ n : Fin 256, (Lex.clsN n.val = 2 ↔ n.val = 35) := by decide +kernel
  have := h ⟨y.toNat, y.toNat_lt⟩
  unfold Lex.cls
  simp only at this
  rw [this]; omega
theorem notNl_iff (y : UInt8) : Lex.notNl y = true ↔ ¬ (y.toNat : Int) = 10 := by
  unfold Lex.notNl
  rw [Bool.not_eq_true', beq_eq_false_iff_ne]
  constructor
  · intro h h2; exact h (UInt8.toNat_inj.1 (by show y.toNat = 10; omega))
  · rintro h rfl; exact h rfl

/-- The gap ends at j. -/
def P (s : ByteArray) (q : Nat) (l : List UInt8) (i : Nat) (o : Option Int) : Prop :=
  ∃ j : Nat, o = some (j : Int) ∧ i ≤ j ∧ j ≤ s.size ∧ Lex.lx q l = Lex.lx j (s.data.toList.drop j) ∧ ∀ h : j < s.size, Lex.cls (s[j]'h) ≠ 1 ∧ Lex.cls (s[j]'h) ≠ 2
theorem P.up {s : ByteArray} {q : Nat} {l : List UInt8} {i : Nat} {o : Option Int} (h : P s q l (i + 1) o) {q' : Nat} {l' : List UInt8} (e : Lex.lx q' l' = Lex.lx q l) : P s q' l' i o := by
  obtain ⟨j, e1, e2, e3, e4, e5⟩ := h
  exact ⟨j, e1, by omega, e3, e.trans e4, e5⟩

theorem gap_spec (s : ByteArray) (hs : s.size ≤ 1000000) : ∀ (d i : Nat), s.size - i = d → i ≤ s.size →
    (∀ k, 3 * d + 7 ≤ k → P s i (s.data.toList.drop i) i (pandectref05_gap.l0 k s (i : Int))) ∧
    (∀ k, 3 * d + 8 ≤ k → P s (i + ((s.data.toList.drop i).takeWhile Lex.notNl).length) ((s.data.toList.drop i).dropWhile Lex.notNl) i (pandectref05_gap.l1 k s (i : Int))) := by
  have hsn : s.data.toList.length = s.size := Array.length_toList
  intro d
  induction d with
  | zero =>
    intro i hd hi
    have hnil : s.data.toList.drop i = [] := List.drop_eq_nil_of_le (by omega)
    have h0 : ∀ k, 1 ≤ k → pandectref05_gap.l0 k s (i : Int) = some (i : Int) := by
      intro k hk
      obtain ⟨k, rfl⟩ : ∃ m, k = m + 1 := ⟨k - 1, by omega⟩
      rw [pandectref05_gap.l0, if_neg (by omega)]
    refine ⟨fun k hk => ⟨i, h0 k (by omega), Nat.le_refl _, hi, rfl, fun h => absurd h (by omega)⟩, fun k hk => ?_⟩
    obtain ⟨k, rfl⟩ : ∃ m, k = m + 1 := ⟨k - 1, by omega⟩
    refine ⟨i, ?_, Nat.le_refl _, hi, ?_, fun h => absurd h (by omega)⟩
    · rw [pandectref05_gap.l1, if_neg (by omega)]
      exact h0 k (by omega)
    · rw [hnil]; rfl
  | succ d ih =>
    intro i hd hi
    have hlt : i < s.size := by omega
    obtain ⟨i0, i1⟩ := ih (i + 1) (by omega) (by omega)
    have hdr := Lex.drop_here hlt
    have hw : wrap64 ((i : Int) + 1) = ((i + 1 : Nat) : Int) := wrap_id (by omega) (by omega)
    have g0 : ∀ k, 3 * (d + 1) + 7 ≤ k → P s i (s.data.toList.drop i) i (pandectref05_gap.l0 k s (i : Int)) := by
      intro k hk
      obtain ⟨k, rfl⟩ : ∃ m, k = m + 5 := ⟨k - 5, by omega⟩
      rw [show k + 5 = (k + 4) + 1 from rfl, pandectref05_gap.l0, if_pos (by omega), if_pos (by omega), bt_here hlt, has3 _ _ (by omega)]
      simp only [Option.bind_some]
      by_cases hb : Lex.cls (s[i]'hlt) = 1
      · rw [decide_eq_true hb, if_pos rfl, hw]
        exact (i0 (k + 4) (by omega)).up (by rw [hdr, Lex.lx_blank hb])
      · rw [decide_eq_false hb, if_neg (by simp)]
        by_cases hh : Lex.cls (s[i]'hlt) = 2
        · have h35 := (cls_hash _).1 hh
          rw [if_pos h35, show k + 4 = (k + 3) + 1 from rfl, pandectref05_gap.l1, if_pos (by omega), if_pos (by omega), bt_here hlt, if_neg (by omega), hw]
          exact (i1 (k + 3) (by omega)).up (by rw [hdr, Lex.lx_hash hh])
        · rw [if_neg (fun h => hh ((cls_hash _).2 h))]
          exact ⟨i, rfl, Nat.le_refl _, hi, rfl, fun _ => ⟨hb, hh⟩⟩
    refine ⟨g0, fun k hk => ?_⟩
    obtain ⟨k, rfl⟩ : ∃ m, k = m + 1 := ⟨k - 1, by omega⟩
    rw [pandectref05_gap.l1, if_pos (by omega), if_pos (by omega), bt_here hlt]
    by_cases h10 : ((s[i]'hlt).toNat : Int) = 10
    · rw [if_pos h10]
      have hn : Lex.notNl (s[i]'hlt) = false := by
        rcases hq : Lex.notNl (s[i]'hlt) with _ | _
        · rfl
        · exact absurd h10 ((notNl_iff _).1 hq)
      have e : (s.data.toList.drop i).dropWhile Lex.notNl = s.data.toList.drop i := by rw [hdr, List.dropWhile_cons, if_neg (by simp [hn])]
      have e2 : (s.data.toList.drop i).takeWhile Lex.notNl = [] := by rw [hdr, Lex.takeWhile_cons_no hn]
      rw [e, e2]
      exact g0 k (by omega)
    · have hn := (notNl_iff (s[i]'hlt)).2 h10
      rw [if_neg h10, hw]
      refine (i1 k (by omega)).up ?_
      rw [hdr, List.dropWhile_cons, if_pos hn, Lex.takeWhile_cons_yes hn, List.length_cons, show i + (((s.data.toList.drop (i + 1)).takeWhile Lex.notNl).length + 1) = i + 1 + ((s.data.toList.drop (i + 1)).takeWhile Lex.notNl).length by omega]

/-- What next answers. -/
def nx (x : Lex.Fd) : Int × ByteArray × Int × Int × Int := if x.err = 0 then (x.kind, ⟨x.text.toArray⟩, x.n, (x.pos : Int), 0) else (0, ⟨#[]⟩, 0, 0, x.err)

theorem ext_eq (s : ByteArray) (i j : Nat) : s.extract i j = ⟨((s.data.toList.drop i).take (j - i)).toArray⟩ := by
  apply ByteArray.ext
  apply Array.ext'
  rw [Lib.extract_data]
theorem word_loop (s : ByteArray) (hs : s.size ≤ 1000000) (p : Nat) : ∀ (d i k : Nat), s.size - i = d → p < i → i ≤ s.size → d < k →
    pandectref05_next.l0 k s (p : Int) (i : Int) 0 ⟨#[]⟩ 0 (p : Int) = some (if Lex.span Lex.isWord s.data.toList i - p > 24 then (0, ⟨#[]⟩, 0, 0, 2) else (1, s.extract p (Lex.span Lex.isWord s.data.toList i), 0, (p : Int), 0)) := by
  have hsn : s.data.toList.length = s.size := Array.length_toList
  intro d
  induction d with
  | zero =>
    intro i k hd hp hi hk
    obtain ⟨k, rfl⟩ : ∃ m, k = m + 1 := ⟨k - 1, by omega⟩
    rw [pandectref05_next.l0, if_neg (by omega), Lex.span_end _ _ _ (by omega), wrap_id (by omega) (by omega)]
    by_cases h : i - p > 24
    · rw [if_pos (by omega), if_pos h]
    · rw [if_neg (by omega), if_neg h, if_pos (by omega), if_pos (by omega), if_pos (by omega), Int.toNat_natCast, Int.toNat_natCast]
  | succ d ih =>
    intro i k hd hp hi hk
    obtain ⟨k, rfl⟩ : ∃ m, k = m + 1 := ⟨k - 1, by omega⟩
    have hlt : i < s.size := by omega
    rw [pandectref05_next.l0, if_pos (by omega), if_pos (by omega), bt_here hlt, word_f]
    simp only [Option.bind_some]
    have hg : s.data.toList[i]'(by omega) = s[i]'hlt := by simp [ByteArray.getElem_eq_getElem_data]
    rcases hw : Lex.isWord (s[i]'hlt) with _ | _
    · rw [if_neg (by simp), Lex.span_no (by omega) (by rw [hg]; exact hw), wrap_id (by omega) (by omega)]
      by_cases h : i - p > 24
      · rw [if_pos (by omega), if_pos h]
      · rw [if_neg (by omega), if_neg h, if_pos (by omega), if_pos (by omega), if_pos (by omega), Int.toNat_natCast, Int.toNat_natCast]
    · rw [if_pos rfl, Lex.span_yes (by omega) (by rw [hg]; exact hw), wrap_id (by omega) (by omega)]
      exact ih (i + 1) k (by omega) (by omega) (by omega) (by omega)

theorem sum_loop (s : ByteArray) (hs : s.size ≤ 1000000) (p e : Nat) (hpe : p ≤ e) (he : e ≤ s.size) (h7 : e - p ≤ 7) (hd : ∀ j (h : j < s.size), p ≤ j → j < e → Lex.cls (s[j]'h) = 4) :
    ∀ (d i k : Nat) (n : Int), e - i = d → p ≤ i → i ≤ e → d < k → 0 ≤ n → n < 10 ^ (i - p) →
    pandectref05_next.l2 k s (p : Int) (e : Int) (i : Int) 2 ⟨#[]⟩ n (p : Int) = some (2, s.extract p e, ((s.data.toList.drop i).take (e - i)).foldl (fun a c => a * 10 + ((c.toNat : Int) - 48)) n, (p : Int), 0) := by
  intro d
  induction d with
  | zero =>
    intro i k n hdd hp hi hk h0 hn
    obtain ⟨k, rfl⟩ : ∃ m, k = m + 1 := ⟨k - 1, by omega⟩
    rw [pandectref05_next.l2, if_neg (by omega), if_pos (by omega), if_pos (by omega), if_pos (by omega), hdd, Int.toNat_natCast, Int.toNat_natCast]; rfl
  | succ d ih =>
    intro i k n hdd hp hi hk h0 hn
    obtain ⟨k, rfl⟩ : ∃ m, k = m + 1 := ⟨k - 1, by omega⟩
    have hlt : i < s.size := by omega
    have hc := Lex.cls_digit (hd i hlt hp (by omega))
    have hmax : (10 : Int) ^ (i - p + 1) ≤ 10 ^ 7 := by
      have := Nat.pow_le_pow_right (n := 10) (by omega) (show i - p + 1 ≤ 7 by omega)
      exact_mod_cast this
    have hp10 : (10 : Int) ^ (i - p + 1) = 10 ^ (i - p) * 10 := Int.pow_succ _ _
    have hm7 : (10 : Int) ^ 7 = 10000000 := by decide
    rw [pandectref05_next.l2, if_pos (by omega), if_pos (by omega), if_pos (by omega), bt_here hlt, Lex.drop_here hlt, show e - i = (e - (i + 1)) + 1 by omega, List.take_succ_cons, List.foldl_cons]
    have e1 : (((s[i]'hlt).toNat : Int) - 48) % 256 = ((s[i]'hlt).toNat : Int) - 48 := by omega
    rw [e1, wrap_id (x := (i : Int) + 1) (by omega) (by omega), wrap_id (x := 10 * n) (by omega) (by omega), wrap_id (by omega) (by omega), Int.mul_comm 10 n]
    exact ih (i + 1) k _ (by omega) (by omega) (by omega) (by omega) (by omega) (by rw [show i + 1 - p = i - p + 1 by omega]; omega)
end Go.Proofs.YtjcleemflenaoaaDoor.LexRef
