/- A name, as the reference tells it, is what the lexer takes for one token. -/
import Derived.Test.YtbmmedoopjjbkaaDoorFinPure2
import Derived.Test.YtbmmedoopjjbkaaDoorH5
namespace Go.Proofs.YtbmmedoopjjbkaaDoor.Fin
open Go.RowKit Go.Proofs.YtbmmedoopjjbkaaDoor.H Go.Proofs.YtbmmedoopjjbkaaDoorW.PrintWords Go.Proofs.YtbmmedoopjjbkaaDoorW.PrintLast Go.Proofs.YtbmmedoopjjbkaaDoorW.PrintMore
set_option linter.unusedVariables false
set_option linter.unusedSimpArgs false

theorem clsN3 (n : Nat) : Lex.clsN n = 3 ↔ (97 ≤ n ∧ n ≤ 122) ∨ (65 ≤ n ∧ n ≤ 90) := by
  unfold Lex.clsN
  repeat' split
  all_goals omega
theorem clsN4 (n : Nat) : Lex.clsN n = 4 ↔ 48 ≤ n ∧ n ≤ 57 := by
  unfold Lex.clsN
  repeat' split
  all_goals omega
theorem clsN5 (n : Nat) : Lex.clsN n = 5 ↔ n = 95 := by
  unfold Lex.clsN
  repeat' split
  all_goals omega
def nameL : List UInt8 → Bool
  | [] => false
  | b :: t => Lex.cls b == 3 && t.all Lex.isWord && decide (t.length + 1 ≤ 24)
/-! ### the lexer's side -/
theorem run_ok : ∀ (fs out : List Lex.Fd), (Lex.run out fs).2.1 = 0 → (Lex.run out fs).1 = out ++ fs ∧ ∀ f ∈ fs, f.err = 0
  | [], out, _ => ⟨by simp [Lex.run], fun f h => by simp at h⟩
  | f :: fs, out, h => by
    unfold Lex.run at h ⊢
    by_cases he : f.err = 0
    · rw [if_neg (by simp [he])] at h ⊢
      by_cases ho : out.length = 5000
      · rw [if_pos ho] at h; simp at h
      · rw [if_neg ho] at h ⊢
        obtain ⟨h1, h2⟩ := run_ok fs (out ++ [f]) h
        refine ⟨by rw [h1]; simp, fun g hg => ?_⟩
        rcases List.mem_cons.1 hg with rfl | hg
        · exact he
        · exact h2 g hg
    · rw [if_pos he] at h; exact absurd h he
theorem lexL_name : ∀ (k p : Nat) (l : List UInt8) (f : Lex.Fd), f ∈ Lex.lexL k p l → f.kind = 1 → f.err = 0 → nameL f.text = true
  | 0, p, l, f, h, _, _ => by simp [Lex.lexL] at h
  | k + 1, p, [], f, h, _, _ => by simp [Lex.lexL] at h
  | k + 1, p, b :: t, f, h, hk, he => by
    have tok : ∀ f, f = Lex.tok1 p b t → f.kind = 1 → f.err = 0 → nameL f.text = true := by
      intro f hf hk he
      subst hf
      by_cases h3 : Lex.cls b = 3
      · rw [Lex.tok1_name h3] at he ⊢
        dsimp only at he ⊢
        split at he
        · exact absurd he (by decide)
        · rename_i hl
          simp only [nameL, h3, beq_self_eq_true, Bool.true_and, Bool.and_eq_true, List.all_eq_true, decide_eq_true_eq]
          exact ⟨fun x hx => Lex.mem_tw hx, by omega⟩
      · exfalso
        unfold Lex.tok1 at hk
        rw [if_neg h3] at hk
        repeat' split at hk
        all_goals (simp at hk)
    unfold Lex.lexL at h
    by_cases h1 : Lex.cls b = 1
    · rw [if_pos h1] at h; exact lexL_name k _ _ f h hk he
    · rw [if_neg h1] at h
      by_cases h2 : Lex.cls b = 2
      · rw [if_pos h2] at h; exact lexL_name k _ _ f h hk he
      · rw [if_neg h2] at h
        by_cases h4 : (Lex.tok1 p b t).err = 0
        · rw [if_pos h4] at h
          rcases List.mem_cons.1 h with h | h
          · exact tok f h hk he
          · exact lexL_name k _ _ f h hk he
        · rw [if_neg h4] at h
          exact tok f (List.mem_singleton.1 h) hk he
theorem tw_all : ∀ {t : List UInt8}, t.all Lex.isWord = true → t.takeWhile Lex.isWord = t
  | [], _ => rfl
  | b :: t, h => by
    simp only [List.all_cons, Bool.and_eq_true] at h
    rw [Lex.takeWhile_cons_yes h.1, tw_all h.2]
theorem tok_name (s : ByteArray) : tokB s = nameL s.data.toList := by
  rcases hn : nameL s.data.toList with _ | _
  · rcases ht : tokB s with _ | _
    · rfl
    · exfalso
      unfold tokB tokL at ht
      simp only [Bool.and_eq_true, beq_iff_eq, List.all_eq_true] at ht
      obtain ⟨h1, h2, h3⟩ := ht
      obtain ⟨x, hx⟩ := List.length_eq_one_iff.1 h2
      obtain ⟨h4, h5⟩ := h3 x (by rw [hx]; simp)
      unfold Lex.lex at h1 hx
      split at h1
      · exact absurd h1 (by decide)
      · rename_i hl
        rw [if_neg hl] at hx
        obtain ⟨h6, h7⟩ := run_ok _ _ h1
        rw [h6, List.nil_append] at hx
        have hm : x ∈ Lex.lexL (s.data.toList.length + 1) 0 s.data.toList := by rw [hx]; simp
        have := lexL_name _ _ _ x hm h4 (h7 x hm)
        rw [Lib.toList_data, Lib.toList_data] at h5
        have h8 : x.text = s.data.toList := h5
        rw [h8, hn] at this
        cases this
  · rcases hl : s.data.toList with _ | ⟨b, t⟩
    · rw [hl] at hn; cases hn
    · rw [hl] at hn
      simp only [nameL, Bool.and_eq_true, beq_iff_eq, decide_eq_true_eq] at hn
      obtain ⟨⟨h3, hw⟩, hlen⟩ := hn
      have e : Lex.tok1 0 b t = ⟨1, b :: t, 0, 0, 0⟩ := by
        rw [Lex.tok1_name h3, tw_all hw, if_neg (by omega)]
      have hx : Lex.lexL ((b :: t).length + 1) 0 (b :: t) = [⟨1, b :: t, 0, 0, 0⟩] := by
        rw [Lex.lexL_tok (by rw [h3]; decide) (by rw [h3]; decide), e]
        simp [Lex.lexL_nil]
      have hlex : Lex.lex (b :: t) = ([⟨1, b :: t, 0, 0, 0⟩], 0, 0) := by
        unfold Lex.lex
        rw [if_neg (by simp only [List.length_cons]; omega), hx]
        simp [Lex.run]
      unfold tokB tokL
      rw [hl, hlex]
      simp [Lib.toList_data, hl]
/-! ### the reference's side -/
theorem bt_list (s : ByteArray) (i : Nat) (h : i < s.size) (h' : i < s.data.toList.length) : bt s (i : Int) = ((s.data.toList[i]'h').toNat : Int) := by
  unfold bt
  rw [dif_pos (by simpa using h)]
  rfl
theorem name_step (k : Nat) (s : ByteArray) (i : Nat) (h : i < s.size) (h' : i < s.data.toList.length) (hm : s.size ≤ maxLen) :
    pandectref07_Name.l0 (k + 1) s (i : Int) = if Lex.cls (s.data.toList[i]'h') = 3 ∨ (i ≠ 0 ∧ (Lex.cls (s.data.toList[i]'h') = 4 ∨ Lex.cls (s.data.toList[i]'h') = 5)) then pandectref07_Name.l0 k s ((i + 1 : Nat) : Int) else some false := by
  have hw : wrap64 ((i : Int) + 1) = ((i + 1 : Nat) : Int) := by
    rw [wrap_id (by omega) (by unfold maxLen at hm; omega)]; omega
  rw [pandectref07_Name.l0, if_pos (by omega), if_pos (by omega), hw, bt_list s i h h']
  unfold Lex.cls
  generalize (s.data.toList[i]'h').toNat = n
  generalize pandectref07_Name.l0 k s ((i + 1 : Nat) : Int) = r
  have k3 := clsN3 n
  have k4 := clsN4 n
  have k5 := clsN5 n
  generalize Lex.clsN n = c at k3 k4 k5
  repeat' split
  all_goals first | rfl | (exfalso; omega)
theorem name_from (s : ByteArray) (hm : s.size ≤ maxLen) : ∀ (d i k : Nat), s.size - i = d → i ≤ s.size → 0 < i → d < k → pandectref07_Name.l0 k s (i : Int) = some ((s.data.toList.drop i).all Lex.isWord && decide (s.size ≤ 24)) := by
  have hsn : s.data.toList.length = s.size := Array.length_toList
  intro d
  induction d with
  | zero =>
    intro i k hd hi h0 hk
    obtain ⟨k, rfl⟩ : ∃ m, k = m + 1 := ⟨k - 1, by omega⟩
    rw [pandectref07_Name.l0, if_neg (by omega), if_pos (by omega), List.drop_eq_nil_of_le (by omega)]
    simp only [List.all_nil, Bool.true_and]
    congr 2
    exact propext (by omega)
  | succ d ih =>
    intro i k hd hi h0 hk
    obtain ⟨k, rfl⟩ : ∃ m, k = m + 1 := ⟨k - 1, by omega⟩
    have hil : i < s.data.toList.length := by omega
    rw [name_step k s i (by omega) hil hm, List.drop_eq_getElem_cons hil, List.all_cons]
    unfold Lex.isWord
    by_cases hc : Lex.cls (s.data.toList[i]'hil) = 3 ∨ (i ≠ 0 ∧ (Lex.cls (s.data.toList[i]'hil) = 4 ∨ Lex.cls (s.data.toList[i]'hil) = 5))
    · rw [if_pos hc, ih (i + 1) k (by omega) (by omega) (by omega) (by omega)]
      have : (Lex.cls (s.data.toList[i]'hil) == 3 || Lex.cls (s.data.toList[i]'hil) == 4 || Lex.cls (s.data.toList[i]'hil) == 5) = true := by
        rcases hc with h | ⟨_, h | h⟩ <;> rw [h] <;> rfl
      rw [this, Bool.true_and]
      rfl
    · rw [if_neg hc]
      have : (Lex.cls (s.data.toList[i]'hil) == 3 || Lex.cls (s.data.toList[i]'hil) == 4 || Lex.cls (s.data.toList[i]'hil) == 5) = false := by
        simp only [Bool.or_eq_false_iff, beq_eq_false_iff_ne]
        exact ⟨⟨fun h => hc (.inl h), fun h => hc (.inr ⟨by omega, .inl h⟩)⟩, fun h => hc (.inr ⟨by omega, .inr h⟩)⟩
      rw [this, Bool.false_and, Bool.false_and]
theorem name_ref (s : ByteArray) (hm : s.size ≤ maxLen) (k : Nat) (hk : s.size < k) : pandectref07_Name.f k s = some (tokB s) := by
  have hsn : s.data.toList.length = s.size := Array.length_toList
  rw [tok_name]
  unfold pandectref07_Name.f
  obtain ⟨k, rfl⟩ : ∃ m, k = m + 1 := ⟨k - 1, by omega⟩
  rcases hl : s.data.toList with _ | ⟨b, t⟩
  · rw [hl] at hsn
    simp only [List.length_nil] at hsn
    rw [pandectref07_Name.l0, if_neg (by omega), if_neg (by omega)]; rfl
  · have hlt : s.size = t.length + 1 := by rw [← hsn, hl]; rfl
    have h0 : 0 < s.data.toList.length := by omega
    have hs := name_step k s 0 (by omega) h0 hm
    have e0 : s.data.toList[0]'h0 = b := by simp [hl]
    rw [e0] at hs
    have hs' : pandectref07_Name.l0 (k + 1) s 0 = _ := hs
    rw [hs']
    by_cases h3 : Lex.cls b = 3
    · rw [if_pos (.inl h3), name_from s hm _ (0 + 1) k rfl (by omega) (by omega) (by omega), hl]
      simp [nameL, h3, hlt]
    · rw [if_neg (by simp [h3])]
      simp [nameL, h3]
theorem valid_ref (v : S32) (h0 : v.f0.size ≤ maxLen) (h1 : v.f1.size ≤ maxLen) (h2 : v.f2.size ≤ maxLen) (h6 : v.f6.size ≤ maxLen) (w : World) :
    Calls Tryd.prog 25 #[.agg (vcells v)] w fun e w' => e = .returned (.bool (vd v)) ∧ Below w.heap.size w w' := by
  refine pandectref28_Valid.calls (v.f0.size + v.f1.size + v.f2.size + v.f6.size + 1) v.f0 v.f1 v.f2 v.f3 v.f4 v.f5 v.f6 (vd v) w ?_
  unfold pandectref28_Valid.f
  rw [name_ref v.f0 h0 _ (by omega), name_ref v.f1 h1 _ (by omega), name_ref v.f2 h2 _ (by omega), name_ref v.f6 h6 _ (by omega)]
  unfold vd
  simp only [Option.bind_some]
  rcases tokB v.f0 with _ | _
  · rfl
  rcases tokB v.f1 with _ | _
  · rfl
  rcases tokB v.f2 with _ | _
  · rfl
  simp only [if_true, Bool.true_and]
  have fin : ∀ r : Bool, (if v.f3 ≥ 0 then (if v.f3 ≤ 1000000 then (if v.f4 ≥ 0 then (some (decide (v.f4 ≤ 1000000))) else (some false)) else (some false)) else (some false)) = some (decide (0 ≤ v.f3) && (decide (v.f3 ≤ 1000000) && (decide (0 ≤ v.f4) && decide (v.f4 ≤ 1000000)))) := by
    intro _
    by_cases a1 : v.f3 ≥ 0
    · rw [if_pos a1, decide_eq_true a1, Bool.true_and]
      by_cases a2 : v.f3 ≤ 1000000
      · rw [if_pos a2, decide_eq_true a2, Bool.true_and]
        by_cases a3 : v.f4 ≥ 0
        · rw [if_pos a3, decide_eq_true a3, Bool.true_and]
        · rw [if_neg a3, decide_eq_false a3, Bool.false_and]
      · rw [if_neg a2, decide_eq_false a2, Bool.false_and]
    · rw [if_neg a1, decide_eq_false a1, Bool.false_and]
  by_cases e : v.f6.toList = ([] : List UInt8)
  · rw [if_pos e, fin true]
    simp [e]
  · rw [if_neg e]
    have e2 : (v.f6.toList == ([] : List UInt8)) = false := beq_eq_false_iff_ne.2 e
    rcases tokB v.f6 with _ | _
    · simp [e2]
    · simp only [if_true]
      rw [fin true]
      simp [e2]
end Go.Proofs.YtbmmedoopjjbkaaDoor.Fin
