/- The pure statement of LexerWords: a name, a symbol and a number, written together, are these three tokens. -/
import Derived.Test.YtjcleemflenaoaaDoorLexPure2
import Derived.Test.YtjcleemflenaoaaDoorLexCmp
import Derived.Test.YtjcleemflenaoaaDoorLexGap
import Derived.Test.YtjcleemflenaoaaDoorH18
namespace Go.Proofs.YtjcleemflenaoaaDoor.Pure
open Go.RowKit Go.Proofs.YtjcleemflenaoaaDoor.H Go.Proofs.YtjcleemflenaoaaDoorW.PrintWords Go.Proofs.YtjcleemflenaoaaDoorW.PrintLast

def isWordN (n : Nat) : Bool := Lex.clsN n == 3 || Lex.clsN n == 4 || Lex.clsN n == 5
theorem letter_f (b : UInt8) : pandectref05_letter.f (b.toNat : Int) = some (decide (Lex.cls b = 3)) := by
  have h : ∀ n : Fin 256, pandectref05_letter.f (n.val : Int) = some (decide (Lex.clsN n.val = 3)) := by decide +kernel
  exact h ⟨b.toNat, b.toNat_lt⟩
theorem word_f (b : UInt8) : pandectref05_word.f (b.toNat : Int) = some (Lex.isWord b) := by
  have h : ∀ n : Fin 256, pandectref05_word.f (n.val : Int) = some (isWordN n.val) := by decide +kernel
  exact h ⟨b.toNat, b.toNat_lt⟩

theorem name_loop (s : ByteArray) (hs : s.size ≤ 140737488351232) : ∀ (d i k : Nat), s.size - i = d → i ≤ s.size → d < k →
    ∃ r, pandectref05_Name.l0 k s (i : Int) = some r ∧ (r = true → (∀ z ∈ s.data.toList.drop i, Lex.isWord z = true) ∧ s.size ≤ 24 ∧ ∃ x t, s.data.toList = x :: t ∧ Lex.cls x = 3) := by
  have hsn : s.data.toList.length = s.size := Array.length_toList
  intro d
  induction d with
  | zero =>
    intro i k hd hi hk
    obtain ⟨k, rfl⟩ : ∃ m, k = m + 1 := ⟨k - 1, by omega⟩
    simp only [pandectref05_Name.l0]
    rw [if_neg (by omega)]
    by_cases h0 : (s.size : Int) > 0
    · rw [if_pos h0]
      by_cases h1 : (s.size : Int) ≤ 24
      · rw [if_pos h1, if_pos h0]
        have hb := LexGap.bt_here (s := s) (i := 0) (by omega)
        have hb' : bt s 0 = ((s[0]'(by omega)).toNat : Int) := hb
        rw [hb', letter_f]
        refine ⟨_, rfl, fun hr => ⟨by rw [List.drop_eq_nil_of_le (by omega)]; simp, by omega, s[0]'(by omega), s.data.toList.drop 1, ?_, of_decide_eq_true hr⟩⟩
        have := Lex.drop_here (s := s) (k := 0) (by omega)
        rw [List.drop_zero] at this
        exact this
      · rw [if_neg h1]; exact ⟨_, rfl, fun h => by simp at h⟩
    · rw [if_neg h0]; exact ⟨_, rfl, fun h => by simp at h⟩
  | succ d ih =>
    intro i k hd hi hk
    obtain ⟨k, rfl⟩ : ∃ m, k = m + 1 := ⟨k - 1, by omega⟩
    simp only [pandectref05_Name.l0]
    have hlt : i < s.size := by omega
    rw [if_pos (by omega), if_pos (by omega), LexGap.bt_here hlt, word_f]
    simp only [Option.bind_some]
    rcases hw : Lex.isWord (s[i]'hlt) with _ | _
    · exact ⟨_, by rw [if_neg (by decide)], fun h => by simp at h⟩
    · rw [if_pos rfl, LexGap.wrap_id (by omega) (by omega)]
      obtain ⟨r, hr, hr2⟩ := ih (i + 1) k (by omega) (by omega) (by omega)
      refine ⟨r, hr, fun h => ?_⟩
      obtain ⟨h1, h2, h3⟩ := hr2 h
      refine ⟨?_, h2, h3⟩
      rw [Lex.drop_here hlt]
      intro z hz
      rcases List.mem_cons.1 hz with rfl | hz
      · exact hw
      · exact h1 z hz

theorem decVal_app (l : List UInt8) (c : UInt8) : Lex.decVal (l ++ [c]) = Lex.decVal l * 10 + ((c.toNat : Int) - 48) := by
  unfold Lex.decVal
  rw [List.foldl_append]; rfl
theorem digit10 (n : Nat) (h : n < 10) : ∃ c : UInt8, (⟨#[48, 49, 50, 51, 52, 53, 54, 55, 56, 57]⟩ : ByteArray).extract n (n + 1) = ⟨#[c]⟩ ∧ c.toNat = 48 + n := by
  match n, h with
  | 0, _ => exact ⟨48, rfl, rfl⟩
  | 1, _ => exact ⟨49, rfl, rfl⟩
  | 2, _ => exact ⟨50, rfl, rfl⟩
  | 3, _ => exact ⟨51, rfl, rfl⟩
  | 4, _ => exact ⟨52, rfl, rfl⟩
  | 5, _ => exact ⟨53, rfl, rfl⟩
  | 6, _ => exact ⟨54, rfl, rfl⟩
  | 7, _ => exact ⟨55, rfl, rfl⟩
  | 8, _ => exact ⟨56, rfl, rfl⟩
  | 9, _ => exact ⟨57, rfl, rfl⟩
theorem cls_digit (c : UInt8) : Lex.cls c = 4 ↔ 48 ≤ c.toNat ∧ c.toNat ≤ 57 := by
  have h : ∀ n : Fin 256, (Lex.clsN n.val = 4 ↔ 48 ≤ n.val ∧ n.val ≤ 57) := by decide +kernel
  exact h ⟨c.toNat, c.toNat_lt⟩
theorem decimal_one (n k : Nat) (h : n < 10) : ∃ c : UInt8, pandectref05_Decimal.f (k + 1) (n : Int) = some ⟨#[c]⟩ ∧ Lex.cls c = 4 ∧ (c.toNat : Int) - 48 = n := by
  obtain ⟨c, hc, hv⟩ := digit10 n h
  refine ⟨c, ?_, (cls_digit c).2 (by omega), by omega⟩
  have hw : wrap64 ((n : Int) + 1) = ((n + 1 : Nat) : Int) := LexGap.wrap_id (by omega) (by omega)
  rw [pandectref05_Decimal.f, if_pos (by omega), if_pos (by omega), hw, if_pos (by omega), if_pos (by omega), Int.toNat_natCast, Int.toNat_natCast, hc]
theorem decimal_f : ∀ (m n k : Nat), n < 10 ^ (m + 1) → m ≤ 6 → m + 1 < k → ∃ ds : List UInt8, pandectref05_Decimal.f k (n : Int) = some ⟨ds.toArray⟩ ∧ ds ≠ [] ∧ ds.length ≤ m + 1 ∧ (∀ c ∈ ds, Lex.cls c = 4) ∧ Lex.decVal ds = n := by
  intro m
  induction m with
  | zero =>
    intro n k hn _ hk
    obtain ⟨k, rfl⟩ : ∃ m, k = m + 1 := ⟨k - 1, by omega⟩
    obtain ⟨c, h1, h2, h3⟩ := decimal_one n k (by omega)
    refine ⟨[c], h1, by simp, by simp, by simpa using h2, ?_⟩
    show 0 * 10 + ((c.toNat : Int) - 48) = n
    omega
  | succ m ih =>
    intro n k hn hm hk
    obtain ⟨k, rfl⟩ : ∃ m, k = m + 2 := ⟨k - 2, by omega⟩
    by_cases h10 : n < 10
    · obtain ⟨c, h1, h2, h3⟩ := decimal_one n (k + 1) h10
      refine ⟨[c], h1, by simp, by simp, by simpa using h2, ?_⟩
      show 0 * 10 + ((c.toNat : Int) - 48) = n
      omega
    · have hp : 10 ^ (m + 1 + 1) = 10 ^ (m + 1) * 10 := rfl
      obtain ⟨ds, d1, d2, d3, d4, d5⟩ := ih (n / 10) (k + 1) (by omega) (by omega) (by omega)
      obtain ⟨c, h1, h2, h3⟩ := decimal_one (n % 10) k (by omega)
      refine ⟨ds ++ [c], ?_, by simp, by simp only [List.length_append, List.length_cons, List.length_nil]; omega, ?_, ?_⟩
      · have hmax : (10 : Nat) ^ (m + 1 + 1) ≤ 10 ^ 7 := Nat.pow_le_pow_right (by omega) (by omega)
        have e1 : wrap64 (Int.tdiv (n : Int) 10) = ((n / 10 : Nat) : Int) := by
          have : Int.tdiv (n : Int) 10 = ((n / 10 : Nat) : Int) := rfl
          rw [this]; exact LexGap.wrap_id (by omega) (by omega)
        have e2 : Int.tmod (n : Int) 10 = ((n % 10 : Nat) : Int) := rfl
        rw [pandectref05_Decimal.f, if_neg (by omega), e1, e2, d1, h1]
        simp only [Option.bind_some]
        have hz : (⟨ds.toArray⟩ : ByteArray).size + (⟨#[c]⟩ : ByteArray).size ≤ 9223372036854775807 := by
          rw [Lib.size_eq, Lib.size_eq]
          simp only [List.length_cons, List.length_nil]
          show ds.length + _ ≤ _
          omega
        rw [if_pos hz]
        congr 1
      · intro z hz
        rcases List.mem_append.1 hz with h | h
        · exact d4 z h
        · rw [List.mem_singleton.1 h]; exact h2
      · rw [decVal_app, d5, h3]; omega

theorem sym13 (n : Nat) (h : n < 13) : ∃ y : UInt8, (⟨#[61, 59, 60, 62, 40, 41, 123, 125, 91, 93, 44, 46, 58]⟩ : ByteArray).extract n (n + 1) = ⟨#[y]⟩ ∧ (Lex.cls y = 6 ∨ Lex.cls y = 7) := by
  match n, h with
  | 0, _ => exact ⟨61, rfl, by decide⟩
  | 1, _ => exact ⟨59, rfl, by decide⟩
  | 2, _ => exact ⟨60, rfl, by decide⟩
  | 3, _ => exact ⟨62, rfl, by decide⟩
  | 4, _ => exact ⟨40, rfl, by decide⟩
  | 5, _ => exact ⟨41, rfl, by decide⟩
  | 6, _ => exact ⟨123, rfl, by decide⟩
  | 7, _ => exact ⟨125, rfl, by decide⟩
  | 8, _ => exact ⟨91, rfl, by decide⟩
  | 9, _ => exact ⟨93, rfl, by decide⟩
  | 10, _ => exact ⟨44, rfl, by decide⟩
  | 11, _ => exact ⟨46, rfl, by decide⟩
  | 12, _ => exact ⟨58, rfl, by decide⟩

theorem tw_all {q : UInt8 → Bool} : ∀ {t : List UInt8}, (∀ z ∈ t, q z = true) → t.takeWhile q = t ∧ t.dropWhile q = []
  | [], _ => ⟨rfl, rfl⟩
  | b :: t, h => by
    obtain ⟨h1, h2⟩ := tw_all (q := q) (t := t) (fun z hz => h z (List.mem_cons_of_mem _ hz))
    have hb : q b = true := h b (List.mem_cons_self)
    rw [List.takeWhile_cons, List.dropWhile_cons, if_pos hb, if_pos hb, h1, h2]
    exact ⟨rfl, rfl⟩
theorem lx_words {x y d : UInt8} {nt ds : List UInt8} (hx : Lex.cls x = 3) (hnt : ∀ z ∈ nt, Lex.isWord z = true) (hl : nt.length + 1 ≤ 24) (hy : Lex.cls y = 6 ∨ Lex.cls y = 7) (hd : ∀ c ∈ d :: ds, Lex.cls c = 4) (hdl : ds.length + 1 ≤ 7) :
    Lex.lx 0 (x :: nt ++ y :: d :: ds) = [⟨1, x :: nt, 0, 0, 0⟩, ⟨3, [y], 0, nt.length + 1, 0⟩, ⟨2, d :: ds, Lex.decVal (d :: ds), nt.length + 2, 0⟩] := by
  have hyw : Lex.isWord y = false := by
    unfold Lex.isWord
    rcases hy with h | h <;> rw [h] <;> rfl
  have hd0 : Lex.cls d = 4 := hd d List.mem_cons_self
  have t1 : Lex.tok1 0 x (nt ++ y :: d :: ds) = ⟨1, x :: nt, 0, 0, 0⟩ := by
    unfold Lex.tok1
    rw [if_pos hx, (Lex.tw_app nt (fun z r' h => by rw [← (List.cons.inj h).1]; exact hyw)).1, (tw_all hnt).1, if_neg (by omega)]
  have t2 : ∀ p, Lex.tok1 p y (d :: ds) = ⟨3, [y], 0, p, 0⟩ := by
    intro p
    unfold Lex.tok1
    have he : Lex.headEq (d :: ds) = false := by
      show (d == 61) = false
      rw [beq_eq_false_iff_ne]
      rintro rfl
      exact absurd hd0 (by decide)
    rcases hy with h | h
    · rw [h, if_neg (by decide), if_neg (by decide), if_pos rfl]
    · rw [h, if_neg (by decide), if_neg (by decide), if_neg (by decide), if_pos (.inl rfl), he, if_neg (by decide), if_neg (by decide)]
  have t3 : ∀ p, Lex.tok1 p d ds = ⟨2, d :: ds, Lex.decVal (d :: ds), p, 0⟩ := by
    intro p
    have hall : ∀ z ∈ ds, Lex.isDigit z = true := by
      intro z hz
      unfold Lex.isDigit
      rw [hd z (List.mem_cons_of_mem _ hz)]; rfl
    unfold Lex.tok1
    rw [hd0, if_neg (by decide), if_pos rfl, (tw_all hall).1, (tw_all hall).2, if_neg (by
      rintro (h | h)
      · omega
      · simp [Lex.headWord] at h)]
  rw [List.cons_append, Lex.lx_tok (by rw [hx]; decide) (by rw [hx]; decide), t1, if_pos rfl]
  have d1 : (x :: (nt ++ y :: d :: ds)).drop (x :: nt).length = y :: d :: ds := by
    rw [← List.cons_append]; exact List.drop_left
  show _ :: Lex.lx (0 + (x :: nt).length) ((x :: (nt ++ y :: d :: ds)).drop (x :: nt).length) = _
  rw [d1, Lex.lx_tok (by rcases hy with h | h <;> rw [h] <;> decide) (by rcases hy with h | h <;> rw [h] <;> decide), t2, if_pos rfl]
  show _ :: _ :: Lex.lx (0 + (x :: nt).length + 1) (d :: ds) = _
  rw [Lex.lx_tok (by rw [hd0]; decide) (by rw [hd0]; decide), t3, if_pos rfl]
  show _ :: _ :: _ :: Lex.lx _ ((d :: ds).drop (d :: ds).length) = _
  rw [List.drop_length, Lex.lx_nil, List.length_cons, Nat.zero_add]

theorem LexerWords : pandectlaw05_LexerWords.Pure := by
  intro s a1 a2 hsb h1 h2
  have h1' : 0 ≤ a1 ∧ a1 ≤ 18446744073709551615 := by
    have h := h1
    simp only [Lit.wf] at h
    have h' : IntKind.u64.min ≤ a1 ∧ a1 ≤ IntKind.u64.max := by simpa using h
    exact ⟨h'.1, h'.2⟩
  have h2' : 0 ≤ a2 ∧ a2 ≤ 255 := by
    have h := h2
    simp only [Lit.wf] at h
    have h' : IntKind.u8.min ≤ a2 ∧ a2 ≤ IntKind.u8.max := by simpa using h
    exact ⟨h'.1, h'.2⟩
  refine ⟨s.size + 1 + 8, ?_⟩
  unfold pandectlaw05_LexerWords.f
  rw [LexHead.head]
  simp only [Option.bind_some]
  obtain ⟨r, hr, hr2⟩ := name_loop s hsb s.size 0 (s.size + 1 + 8) (by omega) (by omega) (by omega)
  have hr' : pandectref05_Name.f (s.size + 1 + 8) s = some r := hr
  rw [hr']
  simp only [Option.bind_some]
  rcases hrb : r with _ | _
  · rw [if_neg (by decide)]
  obtain ⟨hw, h24, x, nt, hxt, hx⟩ := hr2 hrb
  rw [if_pos rfl]
  have hsn : s.data.toList.length = s.size := Array.length_toList
  rw [List.drop_zero, hxt] at hw
  rw [hxt, List.length_cons] at hsn
  obtain ⟨q, rfl⟩ : ∃ q : Nat, a2 = (q : Int) := ⟨a2.toNat, by omega⟩
  obtain ⟨v, rfl⟩ : ∃ v : Nat, a1 = (v : Int) := ⟨a1.toNat, by omega⟩
  have eq1 : Int.tmod (wrap64 (q : Int)) 13 = ((q % 13 : Nat) : Int) := by rw [LexGap.wrap_id (by omega) (by omega)]; rfl
  have eq2 : wrap64 (((q % 13 : Nat) : Int) + 1) = ((q % 13 + 1 : Nat) : Int) := LexGap.wrap_id (by omega) (by omega)
  have eq3 : wrap64 (Int.tmod (v : Int) 10000000) = ((v % 10000000 : Nat) : Int) := by
    have : Int.tmod (v : Int) 10000000 = ((v % 10000000 : Nat) : Int) := rfl
    rw [this]; exact LexGap.wrap_id (by omega) (by omega)
  obtain ⟨y, hy, hyc⟩ := sym13 (q % 13) (by omega)
  obtain ⟨ds, d1, d2, d3, d4, d5⟩ := decimal_f 6 (v % 10000000) (s.size + 1 + 8) (by omega) (by omega) (by omega)
  obtain ⟨d, ds, rfl⟩ : ∃ d t, ds = d :: t := by
    cases ds with
    | nil => exact absurd rfl d2
    | cons d t => exact ⟨d, t, rfl⟩
  rw [eq1, eq2, eq3, Int.toNat_natCast, Int.toNat_natCast, hy, d1]
  have z1 : (⟨#[y]⟩ : ByteArray).size = 1 := rfl
  have z2 : (⟨(d :: ds).toArray⟩ : ByteArray).size = ds.length + 1 := by rw [Lib.size_eq]; rfl
  simp only [List.length_cons] at d3
  have hT : ((s ++ (⟨#[y]⟩ : ByteArray)) ++ (⟨(d :: ds).toArray⟩ : ByteArray)).data.toList = x :: nt ++ y :: d :: ds := by
    rw [LexHead.data_app, LexHead.data_app, hxt]
    show (x :: nt) ++ [y] ++ (d :: ds) = _
    rw [List.append_assoc]; rfl
  have hlx := lx_words (nt := nt) (ds := ds) hx (fun z hz => hw z (List.mem_cons_of_mem _ hz)) (by omega) hyc d4 (by omega)
  rw [← hT] at hlx
  have hf := LexHead.ok ((s ++ (⟨#[y]⟩ : ByteArray)) ++ (⟨(d :: ds).toArray⟩ : ByteArray)) (by rw [hT]; simp only [List.length_append, List.length_cons]; omega) hlx (by
    intro f hf
    simp only [List.mem_cons, List.not_mem_nil, or_false] at hf
    rcases hf with rfl | rfl | rfl <;> rfl)
  rw [if_pos (by omega), if_pos (by omega), if_pos (by omega), if_pos (by omega)]
  simp only [Option.bind_some]
  rw [if_pos (by rw [ByteArray.size_append]; omega), hf]
  simp only [Option.bind_some, if_true, List.map_cons, List.map_nil, List.length_cons, List.length_nil]
  have hsx : (⟨(x :: nt).toArray⟩ : ByteArray) = s := by
    apply ByteArray.ext
    apply Array.ext'
    exact hxt.symm
  have r0 : ∀ a b c : S30, rd_T30 [a, b, c] 0 = a := fun _ _ _ => rfl
  have r1 : ∀ a b c : S30, rd_T30 [a, b, c] 1 = b := fun _ _ _ => rfl
  have r2 : ∀ a b c : S30, rd_T30 [a, b, c] 2 = c := fun _ _ _ => rfl
  have e4 : wrap64 ((s.size : Int) + 1) = ((s.size + 1 : Nat) : Int) := LexGap.wrap_id (by omega) (by omega)
  rw [r0, r1, r2, e4]
  simp only [lexer_Lex.toS, hsx, d5]
  simp
  omega
end Go.Proofs.YtjcleemflenaoaaDoor.Pure
