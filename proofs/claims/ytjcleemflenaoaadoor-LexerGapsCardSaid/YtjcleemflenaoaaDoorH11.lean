-- Written by wip/hyb.py (a program of this session, over the kit's print) for this seat; Lean checks it.
import Derived.Test.YtjcleemflenaoaaDoorH0
import Derived.Test.YtjcleemflenaoaaDoorH2
import Derived.Test.YtjcleemflenaoaaDoorH6
import Derived.Test.YtjcleemflenaoaaDoorH10
import Derived.Test.YtjcleemflenaoaaDoorLexCalls
namespace Go.Proofs.YtjcleemflenaoaaDoor.H
open Go.RowKit Go.Proofs.YtjcleemflenaoaaDoorW.PrintWords Go.Proofs.YtjcleemflenaoaaDoorW.PrintLast Go.Proofs.YtjcleemflenaoaaDoorW.PrintMore
attribute [local go_sem] max2_int min2_int max_two min_two max_three min_three max_four min_four   -- for this text's walks alone
set_option linter.unusedVariables false
set_option linter.unusedSimpArgs false

/-! ### pandectlaw05_LexerGaps: function 8 -/
mutual
def pandectlaw05_LexerGaps.j0 : Nat → ByteArray → ByteArray → Int → Bool → Bool → Option (Bool)
  | 0, _, _, _, _, _ => none
  | k + 1, x0, x1, x2, x7, x30 => if x30 = true then (some x7) else ((lexer_Lex.f x0).bind fun bt189 => (if bt189.2.1 = 0 then (if (bt189.1.length : Int) > 0 then (if (bt189.1.length : Int) = 0 then (none) else (if 0 ≤ (Int.tmod (wrap64 (x2)) (bt189.1.length : Int)) then (if (Int.tmod (wrap64 (x2)) (bt189.1.length : Int)) < (bt189.1.length : Int) then (pandectlaw05_LexerGaps.j1 k x0 x1 x7 bt189.1 (wrap64 (((rd_T30 bt189.1 (Int.tmod (wrap64 (x2)) (bt189.1.length : Int))).f3) + (((rd_T30 bt189.1 (Int.tmod (wrap64 (x2)) (bt189.1.length : Int))).f1).size : Int)))) else (none)) else (none))) else (pandectlaw05_LexerGaps.j1 k x0 x1 x7 bt189.1 0)) else (some x7)))
def pandectlaw05_LexerGaps.j1 : Nat → ByteArray → ByteArray → Bool → List (S30) → Int → Option (Bool)
  | 0, _, _, _, _, _ => none
  | k + 1, x0, x1, x7, x8, x11 => if x11 > (x0.size : Int) then (pandectlaw05_LexerGaps.j2 k x0 x1 x7 x8 x11 true) else (pandectlaw05_LexerGaps.j2 k x0 x1 x7 x8 x11 (decide (x11 < 0)))
def pandectlaw05_LexerGaps.j2 : Nat → ByteArray → ByteArray → Bool → List (S30) → Int → Bool → Option (Bool)
  | 0, _, _, _, _, _, _ => none
  | k + 1, x0, x1, x7, x8, x11, x65 => if x65 = true then (some false) else (if x1.size + 1 ≤ 9223372036854775807 then (if 0 ≤ x11 then (if x11 ≤ (x0.size : Int) then (if (x1 ++ (⟨#[10]⟩ : ByteArray)).size + (x0.extract 0 (x11 : Int).toNat).size ≤ 9223372036854775807 then (if ((x1 ++ (⟨#[10]⟩ : ByteArray)) ++ (x0.extract 0 (x11 : Int).toNat)).size + (x1 ++ (⟨#[10]⟩ : ByteArray)).size ≤ 9223372036854775807 then (if (((x1 ++ (⟨#[10]⟩ : ByteArray)) ++ (x0.extract 0 (x11 : Int).toNat)) ++ (x1 ++ (⟨#[10]⟩ : ByteArray))).size + (x0.extract (x11 : Int).toNat x0.size).size ≤ 9223372036854775807 then (if ((((x1 ++ (⟨#[10]⟩ : ByteArray)) ++ (x0.extract 0 (x11 : Int).toNat)) ++ (x1 ++ (⟨#[10]⟩ : ByteArray))) ++ (x0.extract (x11 : Int).toNat x0.size)).size + 1 ≤ 9223372036854775807 then (if (((((x1 ++ (⟨#[10]⟩ : ByteArray)) ++ (x0.extract 0 (x11 : Int).toNat)) ++ (x1 ++ (⟨#[10]⟩ : ByteArray))) ++ (x0.extract (x11 : Int).toNat x0.size)) ++ (⟨#[10]⟩ : ByteArray)).size + x1.size ≤ 9223372036854775807 then ((lexer_Lex.f ((((((x1 ++ (⟨#[10]⟩ : ByteArray)) ++ (x0.extract 0 (x11 : Int).toNat)) ++ (x1 ++ (⟨#[10]⟩ : ByteArray))) ++ (x0.extract (x11 : Int).toNat x0.size)) ++ (⟨#[10]⟩ : ByteArray)) ++ x1)).bind fun bt196 => (if x7 = true then (if bt196.2.1 = 0 then ((pandectref05_Alike.f k x8 bt196.1).bind fun t201 => (some t201)) else (some false)) else (some false))) else (none)) else (none)) else (none)) else (none)) else (none)) else (none)) else (none)) else (none))
end
def pandectlaw05_LexerGaps.f (k : Nat) (a0 : ByteArray) (a1 : ByteArray) (a2 : Int) : Option (Bool) := (pandectlaw05_head.f).bind fun t187 => (if (a0.size : Int) > 1500 then (pandectlaw05_LexerGaps.j0 k a0 a1 a2 t187 true) else (if (a1.size : Int) > 300 then (pandectlaw05_LexerGaps.j0 k a0 a1 a2 t187 true) else ((pandectref05_Gaps.f k a1).bind fun t188 => (pandectlaw05_LexerGaps.j0 k a0 a1 a2 t187 (!t188)))))
theorem pandectlaw05_LexerGaps.mono_l : ∀ k, (∀ y0 y1 y2 y3 y4, LeO (pandectlaw05_LexerGaps.j0 k y0 y1 y2 y3 y4) (pandectlaw05_LexerGaps.j0 (k + 1) y0 y1 y2 y3 y4)) ∧ (∀ y0 y1 y2 y3 y4, LeO (pandectlaw05_LexerGaps.j1 k y0 y1 y2 y3 y4) (pandectlaw05_LexerGaps.j1 (k + 1) y0 y1 y2 y3 y4)) ∧ (∀ y0 y1 y2 y3 y4 y5, LeO (pandectlaw05_LexerGaps.j2 k y0 y1 y2 y3 y4 y5) (pandectlaw05_LexerGaps.j2 (k + 1) y0 y1 y2 y3 y4 y5))
  | 0 => ⟨fun _ _ _ _ _ r h => by simp [pandectlaw05_LexerGaps.j0] at h, fun _ _ _ _ _ r h => by simp [pandectlaw05_LexerGaps.j1] at h, fun _ _ _ _ _ _ r h => by simp [pandectlaw05_LexerGaps.j2] at h⟩
  | k + 1 => by
    obtain ⟨ih0, ih1, ih2⟩ := pandectlaw05_LexerGaps.mono_l k
    refine ⟨?_, ?_, ?_⟩
    · intro y0 y1 y2 y3 y4
      unfold pandectlaw05_LexerGaps.j0
      repeat' first
      | (with_reducible exact ih0 _ _ _ _ _)
      | (with_reducible exact ih1 _ _ _ _ _)
      | (with_reducible exact ih2 _ _ _ _ _ _)
      | (with_reducible exact pandectref05_Alike.mono _ _ _)
      | (with_reducible exact pandectref05_Gaps.mono _ _)
      | (with_reducible exact LeO.refl _)
      | (with_reducible exact LeO.none _)
      | (with_reducible refine LeO.ite ?_ ?_)
      | (with_reducible refine LeO.bind ?_ (fun _ => ?_))
      | exact ih0 _ _ _ _ _
      | exact ih1 _ _ _ _ _
      | exact ih2 _ _ _ _ _ _
      | exact pandectref05_Alike.mono _ _ _
      | exact pandectref05_Gaps.mono _ _
      | exact LeO.none _
      | refine LeO.ite ?_ ?_
      | refine LeO.bind ?_ (fun _ => ?_)
    · intro y0 y1 y2 y3 y4
      unfold pandectlaw05_LexerGaps.j1
      repeat' first
      | (with_reducible exact ih0 _ _ _ _ _)
      | (with_reducible exact ih1 _ _ _ _ _)
      | (with_reducible exact ih2 _ _ _ _ _ _)
      | (with_reducible exact pandectref05_Alike.mono _ _ _)
      | (with_reducible exact pandectref05_Gaps.mono _ _)
      | (with_reducible exact LeO.refl _)
      | (with_reducible exact LeO.none _)
      | (with_reducible refine LeO.ite ?_ ?_)
      | (with_reducible refine LeO.bind ?_ (fun _ => ?_))
      | exact ih0 _ _ _ _ _
      | exact ih1 _ _ _ _ _
      | exact ih2 _ _ _ _ _ _
      | exact pandectref05_Alike.mono _ _ _
      | exact pandectref05_Gaps.mono _ _
      | exact LeO.none _
      | refine LeO.ite ?_ ?_
      | refine LeO.bind ?_ (fun _ => ?_)
    · intro y0 y1 y2 y3 y4 y5
      unfold pandectlaw05_LexerGaps.j2
      repeat' first
      | (with_reducible exact ih0 _ _ _ _ _)
      | (with_reducible exact ih1 _ _ _ _ _)
      | (with_reducible exact ih2 _ _ _ _ _ _)
      | (with_reducible exact pandectref05_Alike.mono _ _ _)
      | (with_reducible exact pandectref05_Gaps.mono _ _)
      | (with_reducible exact LeO.refl _)
      | (with_reducible exact LeO.none _)
      | (with_reducible refine LeO.ite ?_ ?_)
      | (with_reducible refine LeO.bind ?_ (fun _ => ?_))
      | exact ih0 _ _ _ _ _
      | exact ih1 _ _ _ _ _
      | exact ih2 _ _ _ _ _ _
      | exact pandectref05_Alike.mono _ _ _
      | exact pandectref05_Gaps.mono _ _
      | exact LeO.none _
      | refine LeO.ite ?_ ?_
      | refine LeO.bind ?_ (fun _ => ?_)
theorem pandectlaw05_LexerGaps.mono : ∀ a0 a1 a2 k, LeO (pandectlaw05_LexerGaps.f k a0 a1 a2) (pandectlaw05_LexerGaps.f (k + 1) a0 a1 a2) := by
  intro a0 a1 a2 k
  obtain ⟨ih0, ih1, ih2⟩ := pandectlaw05_LexerGaps.mono_l k
  unfold pandectlaw05_LexerGaps.f
  repeat' first
      | (with_reducible exact ih0 _ _ _ _ _)
      | (with_reducible exact ih1 _ _ _ _ _)
      | (with_reducible exact ih2 _ _ _ _ _ _)
      | (with_reducible exact pandectref05_Alike.mono _ _ _)
      | (with_reducible exact pandectref05_Gaps.mono _ _)
      | (with_reducible exact LeO.refl _)
      | (with_reducible exact LeO.none _)
      | (with_reducible refine LeO.ite ?_ ?_)
      | (with_reducible refine LeO.bind ?_ (fun _ => ?_))
      | exact ih0 _ _ _ _ _
      | exact ih1 _ _ _ _ _
      | exact ih2 _ _ _ _ _ _
      | exact pandectref05_Alike.mono _ _ _
      | exact pandectref05_Gaps.mono _ _
      | exact LeO.none _
      | refine LeO.ite ?_ ?_
      | refine LeO.bind ?_ (fun _ => ?_)
def pandectlaw05_LexerGaps.T14 : Bool × List (List Nat × List Nat) := (true, [([], []), ([], []), ([], []), ([1, 2], [1, 2]), ([0, 3], [0, 3]), ([], []), ([4, 5], [4, 5]), ([], []), ([], []), ([7, 8], [7, 8]), ([6, 9], [6, 9]), ([10], [10]), ([], []), ([11, 12], [11, 12]), ([13], [13]), ([14], [14]), ([15], [15]), ([15], [15]), ([15], [15]), ([16, 14, 0, 1, 2, 3, 4, 5, 6, 7, 8, 9, 10, 11, 12, 13, 14, 15, 16], [16]), ([17, 19, 0, 1, 2, 3, 4, 5, 6, 7, 8, 9, 10, 11, 12, 13, 14, 15, 16, 17, 19], [17]), ([18, 20, 0, 1, 2, 3, 4, 5, 6, 7, 8, 9, 10, 11, 12, 13, 14, 15, 16, 17, 18, 19, 20], [18])])
def pandectlaw05_LexerGaps.B14 : List Nat := [0, 0, 0, 6, 15, 0, 63, 0, 0, 384, 1023, 2047, 0, 8191, 16383, 32767, 65535, 65535, 65535, 131071, 786431, 2097151]
theorem pandectlaw05_LexerGaps.tab14 : rtab .any (opsOf Tryd.f8 14) = pandectlaw05_LexerGaps.T14 := by kernel_rfl
theorem pandectlaw05_LexerGaps.bits14 : waitsOk pandectlaw05_LexerGaps.T14.2 pandectlaw05_LexerGaps.B14 = true := by kernel_rfl
set_option maxHeartbeats 8000000 in
set_option maxRecDepth 100000 in
theorem pandectlaw05_LexerGaps.calls (k : Nat) (a0 : ByteArray) (a1 : ByteArray) (a2 : Int) (r : Bool) (w : World) (h : pandectlaw05_LexerGaps.f k a0 a1 a2 = some r) :
    Calls Tryd.prog 8 #[.string a0, .string a1, .int .u16 a2] w fun e w' => e = .returned (.bool r) ∧ Below w.heap.size w w' := by
  have hu30 := Tryd.underlying30
  have HB := Aside0.mk (Below.refl w.heap.size w)
  have H : ((pandectlaw05_head.f).bind fun t187 => (if (a0.size : Int) > 1500 then (pandectlaw05_LexerGaps.j0 k a0 a1 a2 t187 true) else (if (a1.size : Int) > 300 then (pandectlaw05_LexerGaps.j0 k a0 a1 a2 t187 true) else ((pandectref05_Gaps.f k a1).bind fun t188 => (pandectlaw05_LexerGaps.j0 k a0 a1 a2 t187 (!t188)))))) = some r := h
  clear h
  replace H := Option.bind_eq_some_iff.mp H
  obtain ⟨t187, A40, H⟩ := H
  replace H : (if (a0.size : Int) > 1500 then (pandectlaw05_LexerGaps.j0 k a0 a1 a2 t187 true) else (if (a1.size : Int) > 300 then (pandectlaw05_LexerGaps.j0 k a0 a1 a2 t187 true) else ((pandectref05_Gaps.f k a1).bind fun t188 => (pandectlaw05_LexerGaps.j0 k a0 a1 a2 t187 (!t188))))) = some r := H
  have A4 := Aside0.mk A40
  clear A40
  have HC5 := Aside0.mk H
  clear H
  go_enter Tryd.func8, Tryd.ntmps8
  go_upto_region 2 with (first | ((with_reducible refine gate_callee (f := 11) rfl ?_); refine goesL_ (some 17) rfl rfl Tryd.func11 (by kernel_rfl) rfl #[] rfl (by (try simp only [List.map_toArray, List.map_cons, List.map_nil]); first | done | rfl | (simp only [List.length_drop, List.length_take]; rfl)) ?_; (with_reducible refine (pandectlaw05_head.calls  t187 _ A4.out).mono ?_); rintro e w6 ⟨rfl, hb⟩; refine ⟨_, rfl, ?_⟩; have n0_ := Aside0.mk (below_step (by repeat (first | (with_reducible first | exact HB.out | apply below_alloc | apply pw_below_drewN | apply below_drew1) | exact HB.out)) hb); clear HB; have HB := n0_; clear n0_; (try clear hb); (try clear hb2); (try clear hk); (try clear hi)))
  (try simp only [Act.put, List.setIfInBounds_toArray, List.set_cons_zero, List.set_cons_succ])
  go_cut [30] (fun v30 wc => ∃ (kq : Nat) (x30_4 : Bool), v30 = .bool x30_4 ∧ Aside0 (pandectlaw05_LexerGaps.j0 kq a0 a1 a2 t187 x30_4 = some r) ∧ Aside0 (kq ≤ k) ∧ Aside0 (Below w.heap.size w wc))
  case first =>
    have H := HC5.out
    clear HC5
    by_cases c7 : (a0.size : Int) > 1500
    · rw [if_pos c7] at H
      have c7b0 : decide (1500 < (a0.size : Int)) = true := decide_eq_true c7
      have c7b1 : decide (1500 < a0.size) = true := decide_eq_true (by omega)
      clear c7
      (first | rw [c7b0] | rw [c7b1] | (simp only [i64_w, i32_w]; rw [c7b0]) | skip)
      have H' := Aside0.mk H
      clear H
      go_wp2
      go_meet
      case rel => exact ⟨_, (true), (by first | rfl | (simp; done) | (simp [*]; done)), H', ⟨by first | omega | exact Nat.le_refl _⟩, ⟨by repeat (first | (with_reducible first | exact HB.out | apply below_alloc | apply pw_below_drewN | apply below_drew1) | exact HB.out)⟩⟩
    · rw [if_neg c7] at H
      have c7b0 : decide (1500 < (a0.size : Int)) = false := decide_eq_false c7
      have c7b1 : decide (1500 < a0.size) = false := decide_eq_false (by omega)
      clear c7
      (first | rw [c7b0] | rw [c7b1] | (simp only [i64_w, i32_w]; rw [c7b0]) | skip)
      by_cases c8 : (a1.size : Int) > 300
      · rw [if_pos c8] at H
        have c8b0 : decide (300 < (a1.size : Int)) = true := decide_eq_true c8
        have c8b1 : decide (300 < a1.size) = true := decide_eq_true (by omega)
        clear c8
        have H' := Aside0.mk H
        clear H
        go_wp2
        go_meet
        case rel => exact ⟨_, (true), (by first | rfl | (simp; done) | (simp [*]; done)), H', ⟨by first | omega | exact Nat.le_refl _⟩, ⟨by repeat (first | (with_reducible first | exact HB.out | apply below_alloc | apply pw_below_drewN | apply below_drew1) | exact HB.out)⟩⟩
      · rw [if_neg c8] at H
        have c8b0 : decide (300 < (a1.size : Int)) = false := decide_eq_false c8
        have c8b1 : decide (300 < a1.size) = false := decide_eq_false (by omega)
        clear c8
        replace H := Option.bind_eq_some_iff.mp H
        obtain ⟨t188, A90, H⟩ := H
        replace H : (pandectlaw05_LexerGaps.j0 k a0 a1 a2 t187 (!t188)) = some r := H
        have A9 := Aside0.mk A90
        clear A90
        have H' := Aside0.mk H
        clear H
        go_wp2_with (first | (go_at_call 15; (with_reducible refine (pandectref05_Gaps.calls k a1 t188 _ A9.out).mono ?_); rintro e w' ⟨rfl, ⟨nd, rfl⟩⟩))
        go_meet
        case rel => exact ⟨_, (!t188), (by first | rfl | (simp; done) | (simp [*]; done)), H', ⟨by first | omega | exact Nat.le_refl _⟩, ⟨by repeat (first | (with_reducible first | exact HB.out | apply below_alloc | apply pw_below_drewN | apply below_drew1) | exact HB.out)⟩⟩
  case rest =>
    clear HC5
    try clear c1
    try clear p2
    try clear c7
    try clear c7b0
    try clear c7b1
    try clear c8
    try clear c8b0
    try clear c8b1
    obtain ⟨kq, x30_4, rfl, HA, HJ4, HB⟩ := hcut
    cases kq with
    | zero => exact absurd HA.out (by simp [pandectlaw05_LexerGaps.j0])
    | succ kj4 =>
      have H := HA.out
      clear HA
      simp only [pandectlaw05_LexerGaps.j0] at H
      by_cases c10 : x30_4 = true
      · subst c10
        have H1 : (some t187) = some r := by rw [if_pos rfl] at H; exact H
        clear H
        have H := H1
        clear H1
        obtain rfl := Option.some.inj H
        go_wp2
        go_ret
        exact ⟨by first | rfl | (simp [errW_none, errW_some] <;> rfl) | (simp [*, errW_none, errW_some] <;> rfl), by repeat (first | (with_reducible first | exact HB.out | apply below_alloc | apply pw_below_drewN | apply below_drew1) | exact HB.out)⟩
      · replace c10 := Bool.eq_false_iff.mpr c10
        subst c10
        have H1 : ((lexer_Lex.f a0).bind fun bt189 => (if bt189.2.1 = 0 then (if (bt189.1.length : Int) > 0 then (if (bt189.1.length : Int) = 0 then (none) else (if 0 ≤ (Int.tmod (wrap64 (a2)) (bt189.1.length : Int)) then (if (Int.tmod (wrap64 (a2)) (bt189.1.length : Int)) < (bt189.1.length : Int) then (pandectlaw05_LexerGaps.j1 kj4 a0 a1 t187 bt189.1 (wrap64 (((rd_T30 bt189.1 (Int.tmod (wrap64 (a2)) (bt189.1.length : Int))).f3) + (((rd_T30 bt189.1 (Int.tmod (wrap64 (a2)) (bt189.1.length : Int))).f1).size : Int)))) else (none)) else (none))) else (pandectlaw05_LexerGaps.j1 kj4 a0 a1 t187 bt189.1 0)) else (some t187))) = some r := by rw [if_neg (show ¬ (false = true) by decide)] at H; exact H
        clear H
        have H := H1
        clear H1
        replace H := Option.bind_eq_some_iff.mp H
        obtain ⟨⟨t189, t190, t191⟩, A110, H⟩ := H
        replace H : (if t190 = 0 then (if (t189.length : Int) > 0 then (if (t189.length : Int) = 0 then (none) else (if 0 ≤ (Int.tmod (wrap64 (a2)) (t189.length : Int)) then (if (Int.tmod (wrap64 (a2)) (t189.length : Int)) < (t189.length : Int) then (pandectlaw05_LexerGaps.j1 kj4 a0 a1 t187 t189 (wrap64 (((rd_T30 t189 (Int.tmod (wrap64 (a2)) (t189.length : Int))).f3) + (((rd_T30 t189 (Int.tmod (wrap64 (a2)) (t189.length : Int))).f1).size : Int)))) else (none)) else (none))) else (pandectlaw05_LexerGaps.j1 kj4 a0 a1 t187 t189 0)) else (some t187)) = some r := H
        have A11 := Aside0.mk A110
        clear A110
        by_cases c12 : t190 = 0
        · rw [if_pos c12] at H
          have c12b0 : (t190 == 0) = true := beq_iff_eq.mpr c12
          have c12b1 : (t190 != 0) = false := bne_eq_false_iff_eq.mpr c12
          clear c12
          have HC13 := Aside0.mk H
          clear H
          go_upto_if 43 with (first | ((with_reducible refine gate_callee (f := 12) rfl ?_); refine goesL_ (some 34) rfl rfl Tryd.func12 (by kernel_rfl) rfl #[.string a0] rfl (by (try simp only [List.map_toArray, List.map_cons, List.map_nil]); first | done | rfl | (simp only [List.length_drop, List.length_take]; rfl)) ?_; (with_reducible refine (lexer_Lex.calls a0 t189 t190 t191 _ A11.out).mono ?_); rintro e w14 ⟨v192, rfl, ho0, hb⟩; refine ⟨_, rfl, ?_⟩; have n0_ := Aside0.mk (Kd.R_lower ho0 (below_size (by repeat (first | (with_reducible first | exact HB.out | apply below_alloc | apply pw_below_drewN | apply below_drew1) | exact HB.out)))); have n1_ := Aside0.mk (below_step (by repeat (first | (with_reducible first | exact HB.out | apply below_alloc | apply pw_below_drewN | apply below_drew1) | exact HB.out)) hb); clear HB; have HO193 := n0_; have HB := n1_; clear n0_ n1_; (try clear hb); (try clear hb2); (try clear hk); (try clear hi); (try clear ho0); obtain ⟨Ao15, co15, eo15⟩ := Kd.R_slice HO193.out; subst eo15))
          (try simp only [Act.put, List.setIfInBounds_toArray, List.set_cons_zero, List.set_cons_succ])
          go_cut [11] (fun v11 wc => ∃ (kq : Nat) (x11_12 : Int), v11 = .int .i64 x11_12 ∧ Aside0 (pandectlaw05_LexerGaps.j1 kq a0 a1 t187 t189 x11_12 = some r) ∧ Aside0 (kq ≤ kj4) ∧ Aside0 (Kd.R k30 30 wc w.heap.size (fun _ => True) (.slice Ao15 t189.length co15) t189) ∧ Aside0 (Below w.heap.size w wc))
          case first =>
            have H := HC13.out
            clear HC13
            by_cases c16 : (t189.length : Int) > 0
            · rw [if_pos c16] at H
              have c16b0 : decide (0 < (t189.length : Int)) = true := decide_eq_true c16
              have c16b1 : decide (0 < t189.length) = true := decide_eq_true (by omega)
              clear c16
              (first | rw [c16b0] | rw [c16b1] | (simp only [i64_w, i32_w]; rw [c16b0]) | skip)
              by_cases c17 : (t189.length : Int) = 0
              · rw [if_pos c17] at H
                exact absurd H (by simp)
              · rw [if_neg c17] at H
                have c17b0 : ((t189.length : Int) == 0) = false := beq_eq_false_iff_ne.mpr c17
                have c17b1 : ((t189.length : Int) != 0) = true := bne_iff_ne.mpr c17
                have c17b2 : ¬ (t189 = []) := fun h_ => c17 (by rw [h_]; rfl)
                obtain ⟨ji18, hji18⟩ : ∃ j_ : Int, (Int.tmod (wrap64 (a2)) (t189.length : Int)) = j_ := ⟨_, rfl⟩
                replace H : (if 0 ≤ (ji18) then (if (ji18) < (t189.length : Int) then (pandectlaw05_LexerGaps.j1 kj4 a0 a1 t187 t189 (wrap64 (((rd_T30 t189 (ji18)).f3) + (((rd_T30 t189 (ji18)).f1).size : Int)))) else (none)) else (none)) = some r := by first | (rw [hji18] at H; exact H) | (simp only [hji18] at H ⊢; exact H)
                by_cases c19 : 0 ≤ (ji18)
                · rw [if_pos c19] at H
                  have c19b0 : decide (0 ≤ (ji18)) = true := decide_eq_true c19
                  clear c19
                  by_cases c20 : (ji18) < (t189.length : Int)
                  · rw [if_pos c20] at H
                    have c20b0 : decide ((ji18) < (t189.length : Int)) = true := decide_eq_true c20
                    clear c20
                    have H' := Aside0.mk H
                    clear H
                    have p194 : 0 ≤ ((ji18) : Int) := of_decide_eq_true (by first | (with_reducible assumption) | assumption)
                    have q194 : (ji18) < (t189.length : Int) := of_decide_eq_true (by first | (with_reducible assumption) | assumption)
                    obtain ⟨ad194, e194, hx194_0, hx194_1, hx194_2, hx194_3⟩ := at_T30 (Kd.R_reads' HO193.out).2.2 (ji18) p194 q194
                    cases e194
                    replace p194 := eq_true p194
                    replace q194 := eq_true q194
                    go_wp2_with (first | ((with_reducible refine gate_dst (N := 12) rfl ?_); (try (refine gate_guard (by rfl) ?_; dsimp only)); refine box_event ?hg (N := 12) ?hd (cs := #[.int .i64 0, .string (⟨#[]⟩ : ByteArray), .int .i64 0, .int .i64 0]) (t := 30) ?hr ?_; (case hd => rfl); (case hg => rfl); (case hr => first | (go_simp; done) | (go_simp; rfl)); intro gb195 hg w21 hbox hb; have n0_ := Aside0.mk (Kd.R_below (Kd.R_elderB (by (with_reducible repeat (first | apply Kd.R_alloc | apply Kd.R_drewN | apply Kd.R_drew)); exact HO193.out) gb195 (Nat.le_of_eq hg.symm)) hb); have n1_ := Aside0.mk (below_step (by repeat (first | (with_reducible first | exact HB.out | apply below_alloc | apply pw_below_drewN | apply below_drew1) | exact HB.out)) hb); have n2_ := Aside0.mk (hbox); have n3_ := Aside0.mk ((by rw [hg]; exact (below_size (by repeat (first | (with_reducible first | exact HB.out | apply below_alloc | apply pw_below_drewN | apply below_drew1) | exact HB.out))) : w.heap.size ≤ gb195)); have n4_ := Aside0.mk ((by rw [hg]; exact (below_size (by repeat (first | (with_reducible first | exact HB.out | apply below_alloc | apply pw_below_drewN | apply below_drew1) | exact HB.out))) : w.heap.size ≤ gb195)); clear HO193; clear HB; have HO193 := n0_; have HB := n1_; have BK195 := n2_; have GW195 := n3_; have GE195 := n4_; clear n0_ n1_ n2_ n3_ n4_; clear hb hbox hg; have hcz22_0 : w21.cell? ⟨gb195, 0, none⟩ = some (.int .i64 0) := (blk_cell BK195.out 0).trans rfl; have hcz22_1 : w21.cell? ⟨gb195, 1, none⟩ = some (.string (⟨#[]⟩ : ByteArray)) := (blk_cell BK195.out 1).trans rfl; have hcz22_2 : w21.cell? ⟨gb195, 2, none⟩ = some (.int .i64 0) := (blk_cell BK195.out 2).trans rfl; have hcz22_3 : w21.cell? ⟨gb195, 3, none⟩ = some (.int .i64 0) := (blk_cell BK195.out 3).trans rfl; have hfz22_0 := blk_frozen BK195.out 0; have hfz22_1 := blk_frozen BK195.out 1; have hfz22_2 := blk_frozen BK195.out 2; have hfz22_3 := blk_frozen BK195.out 3))
                    go_meet
                    case rel => exact ⟨_, (wrap64 (((rd_T30 t189 (ji18)).f3) + (((rd_T30 t189 (ji18)).f1).size : Int))), (by first | rfl | (simp; done) | (simp only [← hji18] <;> (first | rfl | simp)) | (simp [*]; done)), H', ⟨by have := HJ4.out; first | omega | exact Nat.le_refl _⟩, ⟨by (with_reducible repeat (first | apply Kd.R_alloc | apply Kd.R_drewN | apply Kd.R_drew)); exact Kd.R_mono (Kd.R_far (p := ⟨gb195, 3, none⟩) (Kd.R_far (p := ⟨gb195, 2, none⟩) (Kd.R_far (p := ⟨gb195, 1, none⟩) (Kd.R_far (p := ⟨gb195, 0, none⟩) (Kd.R_mono HO193.out (fun k_ hk => (⟨hk, hk.2⟩ : _ ∧ k_ ≠ gb195))) (fun _ hk => hk.2) (.int .i64 ((rd_T30 t189 (ji18)).f0))) (fun _ hk => hk.2) (.string ((rd_T30 t189 (ji18)).f1))) (fun _ hk => hk.2) (.int .i64 ((rd_T30 t189 (ji18)).f2))) (fun _ hk => hk.2) (.int .i64 ((rd_T30 t189 (ji18)).f3))) (fun _ hk => trivial)⟩, ⟨by repeat (first | (with_reducible first | exact HB.out | apply below_alloc | apply pw_below_drewN | apply below_drew1 | refine below_set ?_ GE195.out) | exact HB.out)⟩⟩
                  · rw [if_neg c20] at H
                    exact absurd H (by simp)
                · rw [if_neg c19] at H
                  exact absurd H (by simp)
            · rw [if_neg c16] at H
              have c16b0 : decide (0 < (t189.length : Int)) = false := decide_eq_false c16
              have c16b1 : decide (0 < t189.length) = false := decide_eq_false (by omega)
              clear c16
              (first | rw [c16b0] | rw [c16b1] | (simp only [i64_w, i32_w]; rw [c16b0]) | skip)
              have H' := Aside0.mk H
              clear H
              go_wp2
              go_meet
              case rel => exact ⟨_, (0), (by first | rfl | (simp; done) | (simp [*]; done)), H', ⟨by have := HJ4.out; first | omega | exact Nat.le_refl _⟩, ⟨by (with_reducible repeat (first | apply Kd.R_alloc | apply Kd.R_drewN | apply Kd.R_drew)); exact HO193.out⟩, ⟨by repeat (first | (with_reducible first | exact HB.out | apply below_alloc | apply pw_below_drewN | apply below_drew1) | exact HB.out)⟩⟩
          case rest =>
            clear HC13
            try clear c1
            try clear p1
            try clear q1
            try clear hx1
            try clear c2
            try clear p2
            try clear p6
            try clear c7
            try clear c7b0
            try clear c7b1
            try clear c8
            try clear c8b0
            try clear c8b1
            try clear c10
            try clear c11
            try clear c12
            try clear c12b0
            try clear c12b1
            try clear c16
            try clear c16b0
            try clear c16b1
            try clear c17
            try clear c17b0
            try clear c17b1
            try clear c17b2
            try clear c19
            try clear c19b0
            try clear p19
            try clear q19
            try clear hx19
            try clear c20
            try clear c20b0
            try clear hcz22_0
            try clear hcz22_1
            try clear hcz22_2
            try clear hcz22_3
            try clear hfz22_0
            try clear hfz22_1
            try clear hfz22_2
            try clear hfz22_3
            try clear hx194_0
            try clear hx194_1
            try clear hx194_2
            try clear hx194_3
            try clear p194
            try clear p2
            try clear q194
            obtain ⟨kq, x11_12, rfl, HA, HJ12, HO_8, HB⟩ := hcut
            cases kq with
            | zero => exact absurd HA.out (by simp [pandectlaw05_LexerGaps.j1])
            | succ kj12 =>
              have H := HA.out
              clear HA
              simp only [pandectlaw05_LexerGaps.j1] at H
              have HC23 := Aside0.mk H
              clear H
              go_upto_region 11 with (fail)
              go_cut [65] (fun v65 wc => ∃ (kq : Nat) (x65_22 : Bool), v65 = .bool x65_22 ∧ Aside0 (pandectlaw05_LexerGaps.j2 kq a0 a1 t187 t189 x11_12 x65_22 = some r) ∧ Aside0 (kq ≤ kj12) ∧ Aside0 (Kd.R k30 30 wc w.heap.size (fun _ => True) (.slice Ao15 t189.length co15) t189) ∧ Aside0 (Below w.heap.size w wc))
              case first =>
                have H := HC23.out
                clear HC23
                by_cases c24 : x11_12 > (a0.size : Int)
                · rw [if_pos c24] at H
                  have c24b0 : decide ((a0.size : Int) < x11_12) = true := decide_eq_true c24
                  clear c24
                  (first | rw [c24b0] | rw [c24b1] | (simp only [i64_w, i32_w]; rw [c24b0]) | skip)
                  have H' := Aside0.mk H
                  clear H
                  go_wp2
                  go_meet
                  case rel => exact ⟨_, (true), (by first | rfl | (simp; done) | (simp [*]; done)), H', ⟨by have := HJ4.out; have := HJ12.out; first | omega | exact Nat.le_refl _⟩, ⟨by (with_reducible repeat (first | apply Kd.R_alloc | apply Kd.R_drewN | apply Kd.R_drew)); exact HO_8.out⟩, ⟨by repeat (first | (with_reducible first | exact HB.out | apply below_alloc | apply pw_below_drewN | apply below_drew1) | exact HB.out)⟩⟩
                · rw [if_neg c24] at H
                  have c24b0 : decide ((a0.size : Int) < x11_12) = false := decide_eq_false c24
                  clear c24
                  (first | rw [c24b0] | rw [c24b1] | (simp only [i64_w, i32_w]; rw [c24b0]) | skip)
                  have H' := Aside0.mk H
                  clear H
                  go_wp2
                  go_meet
                  case rel => exact ⟨_, (decide (x11_12 < 0)), (by first | rfl | (simp; done) | (simp [*]; done)), H', ⟨by have := HJ4.out; have := HJ12.out; first | omega | exact Nat.le_refl _⟩, ⟨by (with_reducible repeat (first | apply Kd.R_alloc | apply Kd.R_drewN | apply Kd.R_drew)); exact HO_8.out⟩, ⟨by repeat (first | (with_reducible first | exact HB.out | apply below_alloc | apply pw_below_drewN | apply below_drew1) | exact HB.out)⟩⟩
              case rest =>
                clear HC23
                try clear c1
                try clear p1
                try clear q1
                try clear hx1
                try clear c2
                try clear p2
                try clear p6
                try clear c7
                try clear c7b0
                try clear c7b1
                try clear c8
                try clear c8b0
                try clear c8b1
                try clear c10
                try clear c11
                try clear c12
                try clear c12b0
                try clear c12b1
                try clear c16
                try clear c16b0
                try clear c16b1
                try clear c17
                try clear c17b0
                try clear c17b1
                try clear c17b2
                try clear c19
                try clear c19b0
                try clear p19
                try clear q19
                try clear hx19
                try clear c20
                try clear c20b0
                try clear c24
                try clear c24b0
                try clear hcz22_0
                try clear hcz22_1
                try clear hcz22_2
                try clear hcz22_3
                try clear hfz22_0
                try clear hfz22_1
                try clear hfz22_2
                try clear hfz22_3
                try clear hx194_0
                try clear hx194_1
                try clear hx194_2
                try clear hx194_3
                try clear p1
                try clear p19
                try clear p194
                try clear p2
                try clear p6
                try clear q1
                try clear q19
                try clear q194
                obtain ⟨kq, x65_22, rfl, HA, HJ22, HO_8, HB⟩ := hcut
                cases kq with
                | zero => exact absurd HA.out (by simp [pandectlaw05_LexerGaps.j2])
                | succ kj22 =>
                  have H := HA.out
                  clear HA
                  simp only [pandectlaw05_LexerGaps.j2] at H
                  by_cases c25 : x65_22 = true
                  · subst c25
                    have H1 : (some false) = some r := by rw [if_pos rfl] at H; exact H
                    clear H
                    have H := H1
                    clear H1
                    obtain rfl := Option.some.inj H
                    go_wp2
                    go_ret
                    exact ⟨by first | rfl | (simp [errW_none, errW_some] <;> rfl) | (simp [*, errW_none, errW_some] <;> rfl), by repeat (first | (with_reducible first | exact HB.out | apply below_alloc | apply pw_below_drewN | apply below_drew1) | exact HB.out)⟩
                  · replace c25 := Bool.eq_false_iff.mpr c25
                    subst c25
                    have H1 : (if a1.size + 1 ≤ 9223372036854775807 then (if 0 ≤ x11_12 then (if x11_12 ≤ (a0.size : Int) then (if (a1 ++ (⟨#[10]⟩ : ByteArray)).size + (a0.extract 0 (x11_12 : Int).toNat).size ≤ 9223372036854775807 then (if ((a1 ++ (⟨#[10]⟩ : ByteArray)) ++ (a0.extract 0 (x11_12 : Int).toNat)).size + (a1 ++ (⟨#[10]⟩ : ByteArray)).size ≤ 9223372036854775807 then (if (((a1 ++ (⟨#[10]⟩ : ByteArray)) ++ (a0.extract 0 (x11_12 : Int).toNat)) ++ (a1 ++ (⟨#[10]⟩ : ByteArray))).size + (a0.extract (x11_12 : Int).toNat a0.size).size ≤ 9223372036854775807 then (if ((((a1 ++ (⟨#[10]⟩ : ByteArray)) ++ (a0.extract 0 (x11_12 : Int).toNat)) ++ (a1 ++ (⟨#[10]⟩ : ByteArray))) ++ (a0.extract (x11_12 : Int).toNat a0.size)).size + 1 ≤ 9223372036854775807 then (if (((((a1 ++ (⟨#[10]⟩ : ByteArray)) ++ (a0.extract 0 (x11_12 : Int).toNat)) ++ (a1 ++ (⟨#[10]⟩ : ByteArray))) ++ (a0.extract (x11_12 : Int).toNat a0.size)) ++ (⟨#[10]⟩ : ByteArray)).size + a1.size ≤ 9223372036854775807 then ((lexer_Lex.f ((((((a1 ++ (⟨#[10]⟩ : ByteArray)) ++ (a0.extract 0 (x11_12 : Int).toNat)) ++ (a1 ++ (⟨#[10]⟩ : ByteArray))) ++ (a0.extract (x11_12 : Int).toNat a0.size)) ++ (⟨#[10]⟩ : ByteArray)) ++ a1)).bind fun bt196 => (if t187 = true then (if bt196.2.1 = 0 then ((pandectref05_Alike.f kj22 t189 bt196.1).bind fun t201 => (some t201)) else (some false)) else (some false))) else (none)) else (none)) else (none)) else (none)) else (none)) else (none)) else (none)) else (none)) = some r := by rw [if_neg (show ¬ (false = true) by decide)] at H; exact H
                    clear H
                    have H := H1
                    clear H1
                    by_cases c26 : a1.size + 1 ≤ 9223372036854775807
                    · rw [if_pos c26] at H
                      have c26b0 := eq_true c26
                      have c26b1 : decide (a1.size + 1 ≤ 9223372036854775807) = true := decide_eq_true c26
                      try have c26b2 : (9223372036854775807 < a1.size + 1) = False := eq_false (Nat.not_lt.2 c26)
                      by_cases c27 : 0 ≤ x11_12
                      · rw [if_pos c27] at H
                        have c27b0 := eq_true c27
                        have c27b1 : decide (0 ≤ x11_12) = true := decide_eq_true c27
                        clear c27
                        by_cases c28 : x11_12 ≤ (a0.size : Int)
                        · rw [if_pos c28] at H
                          have c28b0 := eq_true c28
                          have c28b1 : decide (x11_12 ≤ (a0.size : Int)) = true := decide_eq_true c28
                          clear c28
                          by_cases c29 : (a1 ++ (⟨#[10]⟩ : ByteArray)).size + (a0.extract 0 (x11_12 : Int).toNat).size ≤ 9223372036854775807
                          · rw [if_pos c29] at H
                            have c29b0 := eq_true c29
                            have c29b1 : decide ((a1 ++ (⟨#[10]⟩ : ByteArray)).size + (a0.extract 0 (x11_12 : Int).toNat).size ≤ 9223372036854775807) = true := decide_eq_true c29
                            try have c29b2 : (9223372036854775807 < (a1 ++ (⟨#[10]⟩ : ByteArray)).size + (a0.extract 0 (x11_12 : Int).toNat).size) = False := eq_false (Nat.not_lt.2 c29)
                            by_cases c30 : ((a1 ++ (⟨#[10]⟩ : ByteArray)) ++ (a0.extract 0 (x11_12 : Int).toNat)).size + (a1 ++ (⟨#[10]⟩ : ByteArray)).size ≤ 9223372036854775807
                            · rw [if_pos c30] at H
                              have c30b0 := eq_true c30
                              have c30b1 : decide (((a1 ++ (⟨#[10]⟩ : ByteArray)) ++ (a0.extract 0 (x11_12 : Int).toNat)).size + (a1 ++ (⟨#[10]⟩ : ByteArray)).size ≤ 9223372036854775807) = true := decide_eq_true c30
                              try have c30b2 : (9223372036854775807 < ((a1 ++ (⟨#[10]⟩ : ByteArray)) ++ (a0.extract 0 (x11_12 : Int).toNat)).size + (a1 ++ (⟨#[10]⟩ : ByteArray)).size) = False := eq_false (Nat.not_lt.2 c30)
                              have c31b0 := eq_true (of_decide_eq_true (by first | (with_reducible assumption) | assumption) : 0 ≤ x11_12)
                              have c32b0 := eq_true (of_decide_eq_true (by first | (with_reducible assumption) | assumption) : x11_12 ≤ (a0.size : Int))
                              by_cases c33 : (((a1 ++ (⟨#[10]⟩ : ByteArray)) ++ (a0.extract 0 (x11_12 : Int).toNat)) ++ (a1 ++ (⟨#[10]⟩ : ByteArray))).size + (a0.extract (x11_12 : Int).toNat a0.size).size ≤ 9223372036854775807
                              · rw [if_pos c33] at H
                                have c33b0 := eq_true c33
                                have c33b1 : decide ((((a1 ++ (⟨#[10]⟩ : ByteArray)) ++ (a0.extract 0 (x11_12 : Int).toNat)) ++ (a1 ++ (⟨#[10]⟩ : ByteArray))).size + (a0.extract (x11_12 : Int).toNat a0.size).size ≤ 9223372036854775807) = true := decide_eq_true c33
                                try have c33b2 : (9223372036854775807 < (((a1 ++ (⟨#[10]⟩ : ByteArray)) ++ (a0.extract 0 (x11_12 : Int).toNat)) ++ (a1 ++ (⟨#[10]⟩ : ByteArray))).size + (a0.extract (x11_12 : Int).toNat a0.size).size) = False := eq_false (Nat.not_lt.2 c33)
                                by_cases c34 : ((((a1 ++ (⟨#[10]⟩ : ByteArray)) ++ (a0.extract 0 (x11_12 : Int).toNat)) ++ (a1 ++ (⟨#[10]⟩ : ByteArray))) ++ (a0.extract (x11_12 : Int).toNat a0.size)).size + 1 ≤ 9223372036854775807
                                · rw [if_pos c34] at H
                                  have c34b0 := eq_true c34
                                  have c34b1 : decide (((((a1 ++ (⟨#[10]⟩ : ByteArray)) ++ (a0.extract 0 (x11_12 : Int).toNat)) ++ (a1 ++ (⟨#[10]⟩ : ByteArray))) ++ (a0.extract (x11_12 : Int).toNat a0.size)).size + 1 ≤ 9223372036854775807) = true := decide_eq_true c34
                                  try have c34b2 : (9223372036854775807 < ((((a1 ++ (⟨#[10]⟩ : ByteArray)) ++ (a0.extract 0 (x11_12 : Int).toNat)) ++ (a1 ++ (⟨#[10]⟩ : ByteArray))) ++ (a0.extract (x11_12 : Int).toNat a0.size)).size + 1) = False := eq_false (Nat.not_lt.2 c34)
                                  by_cases c35 : (((((a1 ++ (⟨#[10]⟩ : ByteArray)) ++ (a0.extract 0 (x11_12 : Int).toNat)) ++ (a1 ++ (⟨#[10]⟩ : ByteArray))) ++ (a0.extract (x11_12 : Int).toNat a0.size)) ++ (⟨#[10]⟩ : ByteArray)).size + a1.size ≤ 9223372036854775807
                                  · rw [if_pos c35] at H
                                    have c35b0 := eq_true c35
                                    have c35b1 : decide ((((((a1 ++ (⟨#[10]⟩ : ByteArray)) ++ (a0.extract 0 (x11_12 : Int).toNat)) ++ (a1 ++ (⟨#[10]⟩ : ByteArray))) ++ (a0.extract (x11_12 : Int).toNat a0.size)) ++ (⟨#[10]⟩ : ByteArray)).size + a1.size ≤ 9223372036854775807) = true := decide_eq_true c35
                                    try have c35b2 : (9223372036854775807 < (((((a1 ++ (⟨#[10]⟩ : ByteArray)) ++ (a0.extract 0 (x11_12 : Int).toNat)) ++ (a1 ++ (⟨#[10]⟩ : ByteArray))) ++ (a0.extract (x11_12 : Int).toNat a0.size)) ++ (⟨#[10]⟩ : ByteArray)).size + a1.size) = False := eq_false (Nat.not_lt.2 c35)
                                    replace H := Option.bind_eq_some_iff.mp H
                                    obtain ⟨⟨t196, t197, t198⟩, A360, H⟩ := H
                                    replace H : (if t187 = true then (if t197 = 0 then ((pandectref05_Alike.f kj22 t189 t196).bind fun t201 => (some t201)) else (some false)) else (some false)) = some r := H
                                    have A36 := Aside0.mk A360
                                    clear A360
                                    by_cases c37 : t187 = true
                                    · subst c37
                                      have H1 : (if t197 = 0 then ((pandectref05_Alike.f kj22 t189 t196).bind fun t201 => (some t201)) else (some false)) = some r := by rw [if_pos rfl] at H; exact H
                                      clear H
                                      have H := H1
                                      clear H1
                                      by_cases c38 : t197 = 0
                                      · rw [if_pos c38] at H
                                        have c38b0 : (t197 == 0) = true := beq_iff_eq.mpr c38
                                        have c38b1 : (t197 != 0) = false := bne_eq_false_iff_eq.mpr c38
                                        clear c38
                                        replace H := Option.bind_eq_some_iff.mp H
                                        obtain ⟨t201, A390, H⟩ := H
                                        replace H : (some t201) = some r := H
                                        have A39 := Aside0.mk A390
                                        clear A390
                                        obtain rfl := Option.some.inj H
                                        try go_wp2
                                        have n0_ := Aside0.mk (Kd.R_drew HO_8.out)
                                        have n1_ := Aside0.mk (below_drew1 HB.out)
                                        clear HO_8
                                        clear HB
                                        have HO_8 := n0_
                                        have HB := n1_
                                        clear n0_ n1_
                                        refine start_ (n := 22) (S := fun w' => True) (ds := []) #[false, false, false, false, false, false, false, false, false, false, false, false, false, false, false, false, false, false, false, false, false, false] (by kernel_rfl) rfl rfl trivial (fun hHeld => ?_); refine with_tabW pandectlaw05_LexerGaps.tab14 pandectlaw05_LexerGaps.bits14 (fun HT_ HW_ => ?_)
                                        generalize wc.drew = w40 at HO_8 HB hHeld ⊢
                                        refine pure_ (i := 0) (N := some 69) (v := ?_) (a' := ?_) #[true, false, false, false, false, false, false, false, false, false, false, false, false, false, false, false, false, false, false, false, false, false] rfl rfl (any_of HT_.out (by kernel_rfl)) (fun _ _ _ h => h) (Or.inl ⟨by rfl, ?_⟩) ?_ ?_
                                        rotate_left
                                        · intro w'
                                          go_simp
                                          first | with_reducible rfl | (rw [if_neg (by have h1_ : (⟨#[10]⟩ : ByteArray).size = 1 := rfl; (try have hc26_ := of_decide_eq_true c26b1); (try have hc27_ := of_decide_eq_true c27b1); (try have hc28_ := of_decide_eq_true c28b1); (try have hc29_ := of_decide_eq_true c29b1); (try have hc30_ := of_decide_eq_true c30b1); (try have hc33_ := of_decide_eq_true c33b1); (try have hc34_ := of_decide_eq_true c34b1); (try have hc35_ := of_decide_eq_true c35b1); (try simp only [ByteArray.size_append, ByteArray.size_extract] at hc26_); (try simp only [ByteArray.size_append, ByteArray.size_extract] at hc27_); (try simp only [ByteArray.size_append, ByteArray.size_extract] at hc28_); (try simp only [ByteArray.size_append, ByteArray.size_extract] at hc29_); (try simp only [ByteArray.size_append, ByteArray.size_extract] at hc30_); (try simp only [ByteArray.size_append, ByteArray.size_extract] at hc33_); (try simp only [ByteArray.size_append, ByteArray.size_extract] at hc34_); (try simp only [ByteArray.size_append, ByteArray.size_extract] at hc35_); omega)]; try with_reducible rfl)
                                        rotate_left
                                        · simp only [Act.put, List.setIfInBounds_toArray, List.set_cons_zero, List.set_cons_succ, i64_w, i32_w]
                                          rfl
                                        refine pure_ (i := 1) (N := some 70) (v := ?_) (a' := ?_) #[true, true, false, false, false, false, false, false, false, false, false, false, false, false, false, false, false, false, false, false, false, false] rfl rfl (any_of HT_.out (by kernel_rfl)) (fun _ _ _ h => h) (Or.inl ⟨by rfl, ?_⟩) ?_ ?_
                                        rotate_left
                                        · intro w'
                                          go_simp
                                          first | with_reducible rfl | (rw [if_neg (by have h1_ : (⟨#[10]⟩ : ByteArray).size = 1 := rfl; (try have hc26_ := of_decide_eq_true c26b1); (try have hc27_ := of_decide_eq_true c27b1); (try have hc28_ := of_decide_eq_true c28b1); (try have hc29_ := of_decide_eq_true c29b1); (try have hc30_ := of_decide_eq_true c30b1); (try have hc33_ := of_decide_eq_true c33b1); (try have hc34_ := of_decide_eq_true c34b1); (try have hc35_ := of_decide_eq_true c35b1); (try simp only [ByteArray.size_append, ByteArray.size_extract] at hc26_); (try simp only [ByteArray.size_append, ByteArray.size_extract] at hc27_); (try simp only [ByteArray.size_append, ByteArray.size_extract] at hc28_); (try simp only [ByteArray.size_append, ByteArray.size_extract] at hc29_); (try simp only [ByteArray.size_append, ByteArray.size_extract] at hc30_); (try simp only [ByteArray.size_append, ByteArray.size_extract] at hc33_); (try simp only [ByteArray.size_append, ByteArray.size_extract] at hc34_); (try simp only [ByteArray.size_append, ByteArray.size_extract] at hc35_); omega)]; try with_reducible rfl)
                                        rotate_left
                                        · simp only [Act.put, List.setIfInBounds_toArray, List.set_cons_zero, List.set_cons_succ, i64_w, i32_w]
                                          rfl
                                        refine pure_ (i := 2) (N := some 71) (v := ?_) (a' := ?_) #[true, true, true, false, false, false, false, false, false, false, false, false, false, false, false, false, false, false, false, false, false, false] rfl rfl (any_of HT_.out (by kernel_rfl)) (fun _ _ _ h => h) (Or.inl ⟨by rfl, ?_⟩) ?_ ?_
                                        rotate_left
                                        · intro w'
                                          go_simp
                                          first | with_reducible rfl | (rw [if_neg (by have h1_ : (⟨#[10]⟩ : ByteArray).size = 1 := rfl; (try have hc26_ := of_decide_eq_true c26b1); (try have hc27_ := of_decide_eq_true c27b1); (try have hc28_ := of_decide_eq_true c28b1); (try have hc29_ := of_decide_eq_true c29b1); (try have hc30_ := of_decide_eq_true c30b1); (try have hc33_ := of_decide_eq_true c33b1); (try have hc34_ := of_decide_eq_true c34b1); (try have hc35_ := of_decide_eq_true c35b1); (try simp only [ByteArray.size_append, ByteArray.size_extract] at hc26_); (try simp only [ByteArray.size_append, ByteArray.size_extract] at hc27_); (try simp only [ByteArray.size_append, ByteArray.size_extract] at hc28_); (try simp only [ByteArray.size_append, ByteArray.size_extract] at hc29_); (try simp only [ByteArray.size_append, ByteArray.size_extract] at hc30_); (try simp only [ByteArray.size_append, ByteArray.size_extract] at hc33_); (try simp only [ByteArray.size_append, ByteArray.size_extract] at hc34_); (try simp only [ByteArray.size_append, ByteArray.size_extract] at hc35_); omega)]; try with_reducible rfl)
                                        rotate_left
                                        · simp only [Act.put, List.setIfInBounds_toArray, List.set_cons_zero, List.set_cons_succ, i64_w, i32_w]
                                          rfl
                                        refine pure_ (i := 3) (N := some 72) (v := ?_) (a' := ?_) #[true, true, true, true, false, false, false, false, false, false, false, false, false, false, false, false, false, false, false, false, false, false] rfl rfl (any_of HT_.out (by kernel_rfl)) (fun _ _ _ h => h) (Or.inl ⟨by rfl, ?_⟩) ?_ ?_
                                        rotate_left
                                        · intro w'
                                          go_simp
                                          first | with_reducible rfl | (rw [if_neg (by have h1_ : (⟨#[10]⟩ : ByteArray).size = 1 := rfl; (try have hc26_ := of_decide_eq_true c26b1); (try have hc27_ := of_decide_eq_true c27b1); (try have hc28_ := of_decide_eq_true c28b1); (try have hc29_ := of_decide_eq_true c29b1); (try have hc30_ := of_decide_eq_true c30b1); (try have hc33_ := of_decide_eq_true c33b1); (try have hc34_ := of_decide_eq_true c34b1); (try have hc35_ := of_decide_eq_true c35b1); (try simp only [ByteArray.size_append, ByteArray.size_extract] at hc26_); (try simp only [ByteArray.size_append, ByteArray.size_extract] at hc27_); (try simp only [ByteArray.size_append, ByteArray.size_extract] at hc28_); (try simp only [ByteArray.size_append, ByteArray.size_extract] at hc29_); (try simp only [ByteArray.size_append, ByteArray.size_extract] at hc30_); (try simp only [ByteArray.size_append, ByteArray.size_extract] at hc33_); (try simp only [ByteArray.size_append, ByteArray.size_extract] at hc34_); (try simp only [ByteArray.size_append, ByteArray.size_extract] at hc35_); omega)]; try with_reducible rfl)
                                        rotate_left
                                        · simp only [Act.put, List.setIfInBounds_toArray, List.set_cons_zero, List.set_cons_succ, i64_w, i32_w]
                                          rfl
                                        refine pure_ (i := 4) (N := some 73) (v := ?_) (a' := ?_) #[true, true, true, true, true, false, false, false, false, false, false, false, false, false, false, false, false, false, false, false, false, false] rfl rfl (any_of HT_.out (by kernel_rfl)) (fun _ _ _ h => h) (Or.inl ⟨by rfl, ?_⟩) ?_ ?_
                                        rotate_left
                                        · intro w'
                                          go_simp
                                          first | with_reducible rfl | (rw [if_neg (by have h1_ : (⟨#[10]⟩ : ByteArray).size = 1 := rfl; (try have hc26_ := of_decide_eq_true c26b1); (try have hc27_ := of_decide_eq_true c27b1); (try have hc28_ := of_decide_eq_true c28b1); (try have hc29_ := of_decide_eq_true c29b1); (try have hc30_ := of_decide_eq_true c30b1); (try have hc33_ := of_decide_eq_true c33b1); (try have hc34_ := of_decide_eq_true c34b1); (try have hc35_ := of_decide_eq_true c35b1); (try simp only [ByteArray.size_append, ByteArray.size_extract] at hc26_); (try simp only [ByteArray.size_append, ByteArray.size_extract] at hc27_); (try simp only [ByteArray.size_append, ByteArray.size_extract] at hc28_); (try simp only [ByteArray.size_append, ByteArray.size_extract] at hc29_); (try simp only [ByteArray.size_append, ByteArray.size_extract] at hc30_); (try simp only [ByteArray.size_append, ByteArray.size_extract] at hc33_); (try simp only [ByteArray.size_append, ByteArray.size_extract] at hc34_); (try simp only [ByteArray.size_append, ByteArray.size_extract] at hc35_); omega)]; try with_reducible rfl)
                                        rotate_left
                                        · simp only [Act.put, List.setIfInBounds_toArray, List.set_cons_zero, List.set_cons_succ, i64_w, i32_w]
                                          rfl
                                        refine pure_ (i := 5) (N := some 74) (v := ?_) (a' := ?_) #[true, true, true, true, true, true, false, false, false, false, false, false, false, false, false, false, false, false, false, false, false, false] rfl rfl (any_of HT_.out (by kernel_rfl)) (fun _ _ _ h => h) (Or.inl ⟨by rfl, ?_⟩) ?_ ?_
                                        rotate_left
                                        · intro w'
                                          go_simp
                                          first | with_reducible rfl | (rw [if_neg (by have h1_ : (⟨#[10]⟩ : ByteArray).size = 1 := rfl; (try have hc26_ := of_decide_eq_true c26b1); (try have hc27_ := of_decide_eq_true c27b1); (try have hc28_ := of_decide_eq_true c28b1); (try have hc29_ := of_decide_eq_true c29b1); (try have hc30_ := of_decide_eq_true c30b1); (try have hc33_ := of_decide_eq_true c33b1); (try have hc34_ := of_decide_eq_true c34b1); (try have hc35_ := of_decide_eq_true c35b1); (try simp only [ByteArray.size_append, ByteArray.size_extract] at hc26_); (try simp only [ByteArray.size_append, ByteArray.size_extract] at hc27_); (try simp only [ByteArray.size_append, ByteArray.size_extract] at hc28_); (try simp only [ByteArray.size_append, ByteArray.size_extract] at hc29_); (try simp only [ByteArray.size_append, ByteArray.size_extract] at hc30_); (try simp only [ByteArray.size_append, ByteArray.size_extract] at hc33_); (try simp only [ByteArray.size_append, ByteArray.size_extract] at hc34_); (try simp only [ByteArray.size_append, ByteArray.size_extract] at hc35_); omega)]; try with_reducible rfl)
                                        rotate_left
                                        · simp only [Act.put, List.setIfInBounds_toArray, List.set_cons_zero, List.set_cons_succ, i64_w, i32_w]
                                          rfl
                                        refine pure_ (i := 6) (N := some 75) (v := ?_) (a' := ?_) #[true, true, true, true, true, true, true, false, false, false, false, false, false, false, false, false, false, false, false, false, false, false] rfl rfl (any_of HT_.out (by kernel_rfl)) (fun _ _ _ h => h) (Or.inl ⟨by rfl, ?_⟩) ?_ ?_
                                        rotate_left
                                        · intro w'
                                          go_simp
                                          first | with_reducible rfl | (rw [if_neg (by have h1_ : (⟨#[10]⟩ : ByteArray).size = 1 := rfl; (try have hc26_ := of_decide_eq_true c26b1); (try have hc27_ := of_decide_eq_true c27b1); (try have hc28_ := of_decide_eq_true c28b1); (try have hc29_ := of_decide_eq_true c29b1); (try have hc30_ := of_decide_eq_true c30b1); (try have hc33_ := of_decide_eq_true c33b1); (try have hc34_ := of_decide_eq_true c34b1); (try have hc35_ := of_decide_eq_true c35b1); (try simp only [ByteArray.size_append, ByteArray.size_extract] at hc26_); (try simp only [ByteArray.size_append, ByteArray.size_extract] at hc27_); (try simp only [ByteArray.size_append, ByteArray.size_extract] at hc28_); (try simp only [ByteArray.size_append, ByteArray.size_extract] at hc29_); (try simp only [ByteArray.size_append, ByteArray.size_extract] at hc30_); (try simp only [ByteArray.size_append, ByteArray.size_extract] at hc33_); (try simp only [ByteArray.size_append, ByteArray.size_extract] at hc34_); (try simp only [ByteArray.size_append, ByteArray.size_extract] at hc35_); omega)]; try with_reducible rfl)
                                        rotate_left
                                        · simp only [Act.put, List.setIfInBounds_toArray, List.set_cons_zero, List.set_cons_succ, i64_w, i32_w]
                                          rfl
                                        refine pure_ (i := 7) (N := some 76) (v := ?_) (a' := ?_) #[true, true, true, true, true, true, true, true, false, false, false, false, false, false, false, false, false, false, false, false, false, false] rfl rfl (any_of HT_.out (by kernel_rfl)) (fun _ _ _ h => h) (Or.inl ⟨by rfl, ?_⟩) ?_ ?_
                                        rotate_left
                                        · intro w'
                                          go_simp
                                          first | with_reducible rfl | (rw [if_neg (by have h1_ : (⟨#[10]⟩ : ByteArray).size = 1 := rfl; (try have hc26_ := of_decide_eq_true c26b1); (try have hc27_ := of_decide_eq_true c27b1); (try have hc28_ := of_decide_eq_true c28b1); (try have hc29_ := of_decide_eq_true c29b1); (try have hc30_ := of_decide_eq_true c30b1); (try have hc33_ := of_decide_eq_true c33b1); (try have hc34_ := of_decide_eq_true c34b1); (try have hc35_ := of_decide_eq_true c35b1); (try simp only [ByteArray.size_append, ByteArray.size_extract] at hc26_); (try simp only [ByteArray.size_append, ByteArray.size_extract] at hc27_); (try simp only [ByteArray.size_append, ByteArray.size_extract] at hc28_); (try simp only [ByteArray.size_append, ByteArray.size_extract] at hc29_); (try simp only [ByteArray.size_append, ByteArray.size_extract] at hc30_); (try simp only [ByteArray.size_append, ByteArray.size_extract] at hc33_); (try simp only [ByteArray.size_append, ByteArray.size_extract] at hc34_); (try simp only [ByteArray.size_append, ByteArray.size_extract] at hc35_); omega)]; try with_reducible rfl)
                                        rotate_left
                                        · simp only [Act.put, List.setIfInBounds_toArray, List.set_cons_zero, List.set_cons_succ, i64_w, i32_w]
                                          rfl
                                        refine pure_ (i := 8) (N := some 77) (v := ?_) (a' := ?_) #[true, true, true, true, true, true, true, true, true, false, false, false, false, false, false, false, false, false, false, false, false, false] rfl rfl (any_of HT_.out (by kernel_rfl)) (fun _ _ _ h => h) (Or.inl ⟨by rfl, ?_⟩) ?_ ?_
                                        rotate_left
                                        · intro w'
                                          go_simp
                                          first | with_reducible rfl | (rw [if_neg (by have h1_ : (⟨#[10]⟩ : ByteArray).size = 1 := rfl; (try have hc26_ := of_decide_eq_true c26b1); (try have hc27_ := of_decide_eq_true c27b1); (try have hc28_ := of_decide_eq_true c28b1); (try have hc29_ := of_decide_eq_true c29b1); (try have hc30_ := of_decide_eq_true c30b1); (try have hc33_ := of_decide_eq_true c33b1); (try have hc34_ := of_decide_eq_true c34b1); (try have hc35_ := of_decide_eq_true c35b1); (try simp only [ByteArray.size_append, ByteArray.size_extract] at hc26_); (try simp only [ByteArray.size_append, ByteArray.size_extract] at hc27_); (try simp only [ByteArray.size_append, ByteArray.size_extract] at hc28_); (try simp only [ByteArray.size_append, ByteArray.size_extract] at hc29_); (try simp only [ByteArray.size_append, ByteArray.size_extract] at hc30_); (try simp only [ByteArray.size_append, ByteArray.size_extract] at hc33_); (try simp only [ByteArray.size_append, ByteArray.size_extract] at hc34_); (try simp only [ByteArray.size_append, ByteArray.size_extract] at hc35_); omega)]; try with_reducible rfl)
                                        rotate_left
                                        · simp only [Act.put, List.setIfInBounds_toArray, List.set_cons_zero, List.set_cons_succ, i64_w, i32_w]
                                          rfl
                                        refine pure_ (i := 9) (N := some 78) (v := ?_) (a' := ?_) #[true, true, true, true, true, true, true, true, true, true, false, false, false, false, false, false, false, false, false, false, false, false] rfl rfl (any_of HT_.out (by kernel_rfl)) (fun _ _ _ h => h) (Or.inl ⟨by rfl, ?_⟩) ?_ ?_
                                        rotate_left
                                        · intro w'
                                          go_simp
                                          first | with_reducible rfl | (rw [if_neg (by have h1_ : (⟨#[10]⟩ : ByteArray).size = 1 := rfl; (try have hc26_ := of_decide_eq_true c26b1); (try have hc27_ := of_decide_eq_true c27b1); (try have hc28_ := of_decide_eq_true c28b1); (try have hc29_ := of_decide_eq_true c29b1); (try have hc30_ := of_decide_eq_true c30b1); (try have hc33_ := of_decide_eq_true c33b1); (try have hc34_ := of_decide_eq_true c34b1); (try have hc35_ := of_decide_eq_true c35b1); (try simp only [ByteArray.size_append, ByteArray.size_extract] at hc26_); (try simp only [ByteArray.size_append, ByteArray.size_extract] at hc27_); (try simp only [ByteArray.size_append, ByteArray.size_extract] at hc28_); (try simp only [ByteArray.size_append, ByteArray.size_extract] at hc29_); (try simp only [ByteArray.size_append, ByteArray.size_extract] at hc30_); (try simp only [ByteArray.size_append, ByteArray.size_extract] at hc33_); (try simp only [ByteArray.size_append, ByteArray.size_extract] at hc34_); (try simp only [ByteArray.size_append, ByteArray.size_extract] at hc35_); omega)]; try with_reducible rfl)
                                        rotate_left
                                        · simp only [Act.put, List.setIfInBounds_toArray, List.set_cons_zero, List.set_cons_succ, i64_w, i32_w]
                                          rfl
                                        refine pure_ (i := 10) (N := some 79) (v := ?_) (a' := ?_) #[true, true, true, true, true, true, true, true, true, true, true, false, false, false, false, false, false, false, false, false, false, false] rfl rfl (any_of HT_.out (by kernel_rfl)) (fun _ _ _ h => h) (Or.inl ⟨by rfl, ?_⟩) ?_ ?_
                                        rotate_left
                                        · intro w'
                                          go_simp
                                          first | with_reducible rfl | (rw [if_neg (by have h1_ : (⟨#[10]⟩ : ByteArray).size = 1 := rfl; (try have hc26_ := of_decide_eq_true c26b1); (try have hc27_ := of_decide_eq_true c27b1); (try have hc28_ := of_decide_eq_true c28b1); (try have hc29_ := of_decide_eq_true c29b1); (try have hc30_ := of_decide_eq_true c30b1); (try have hc33_ := of_decide_eq_true c33b1); (try have hc34_ := of_decide_eq_true c34b1); (try have hc35_ := of_decide_eq_true c35b1); (try simp only [ByteArray.size_append, ByteArray.size_extract] at hc26_); (try simp only [ByteArray.size_append, ByteArray.size_extract] at hc27_); (try simp only [ByteArray.size_append, ByteArray.size_extract] at hc28_); (try simp only [ByteArray.size_append, ByteArray.size_extract] at hc29_); (try simp only [ByteArray.size_append, ByteArray.size_extract] at hc30_); (try simp only [ByteArray.size_append, ByteArray.size_extract] at hc33_); (try simp only [ByteArray.size_append, ByteArray.size_extract] at hc34_); (try simp only [ByteArray.size_append, ByteArray.size_extract] at hc35_); omega)]; try with_reducible rfl)
                                        rotate_left
                                        · simp only [Act.put, List.setIfInBounds_toArray, List.set_cons_zero, List.set_cons_succ, i64_w, i32_w]
                                          rfl
                                        refine pure_ (i := 11) (N := some 80) (v := ?_) (a' := ?_) #[true, true, true, true, true, true, true, true, true, true, true, true, false, false, false, false, false, false, false, false, false, false] rfl rfl (any_of HT_.out (by kernel_rfl)) (fun _ _ _ h => h) (Or.inl ⟨by rfl, ?_⟩) ?_ ?_
                                        rotate_left
                                        · intro w'
                                          go_simp
                                          first | with_reducible rfl | (rw [if_neg (by have h1_ : (⟨#[10]⟩ : ByteArray).size = 1 := rfl; (try have hc26_ := of_decide_eq_true c26b1); (try have hc27_ := of_decide_eq_true c27b1); (try have hc28_ := of_decide_eq_true c28b1); (try have hc29_ := of_decide_eq_true c29b1); (try have hc30_ := of_decide_eq_true c30b1); (try have hc33_ := of_decide_eq_true c33b1); (try have hc34_ := of_decide_eq_true c34b1); (try have hc35_ := of_decide_eq_true c35b1); (try simp only [ByteArray.size_append, ByteArray.size_extract] at hc26_); (try simp only [ByteArray.size_append, ByteArray.size_extract] at hc27_); (try simp only [ByteArray.size_append, ByteArray.size_extract] at hc28_); (try simp only [ByteArray.size_append, ByteArray.size_extract] at hc29_); (try simp only [ByteArray.size_append, ByteArray.size_extract] at hc30_); (try simp only [ByteArray.size_append, ByteArray.size_extract] at hc33_); (try simp only [ByteArray.size_append, ByteArray.size_extract] at hc34_); (try simp only [ByteArray.size_append, ByteArray.size_extract] at hc35_); omega)]; try with_reducible rfl)
                                        rotate_left
                                        · simp only [Act.put, List.setIfInBounds_toArray, List.set_cons_zero, List.set_cons_succ, i64_w, i32_w]
                                          rfl
                                        refine pure_ (i := 12) (N := some 81) (v := ?_) (a' := ?_) #[true, true, true, true, true, true, true, true, true, true, true, true, true, false, false, false, false, false, false, false, false, false] rfl rfl (any_of HT_.out (by kernel_rfl)) (fun _ _ _ h => h) (Or.inl ⟨by rfl, ?_⟩) ?_ ?_
                                        rotate_left
                                        · intro w'
                                          go_simp
                                          first | with_reducible rfl | (rw [if_neg (by have h1_ : (⟨#[10]⟩ : ByteArray).size = 1 := rfl; (try have hc26_ := of_decide_eq_true c26b1); (try have hc27_ := of_decide_eq_true c27b1); (try have hc28_ := of_decide_eq_true c28b1); (try have hc29_ := of_decide_eq_true c29b1); (try have hc30_ := of_decide_eq_true c30b1); (try have hc33_ := of_decide_eq_true c33b1); (try have hc34_ := of_decide_eq_true c34b1); (try have hc35_ := of_decide_eq_true c35b1); (try simp only [ByteArray.size_append, ByteArray.size_extract] at hc26_); (try simp only [ByteArray.size_append, ByteArray.size_extract] at hc27_); (try simp only [ByteArray.size_append, ByteArray.size_extract] at hc28_); (try simp only [ByteArray.size_append, ByteArray.size_extract] at hc29_); (try simp only [ByteArray.size_append, ByteArray.size_extract] at hc30_); (try simp only [ByteArray.size_append, ByteArray.size_extract] at hc33_); (try simp only [ByteArray.size_append, ByteArray.size_extract] at hc34_); (try simp only [ByteArray.size_append, ByteArray.size_extract] at hc35_); omega)]; try with_reducible rfl)
                                        rotate_left
                                        · simp only [Act.put, List.setIfInBounds_toArray, List.set_cons_zero, List.set_cons_succ, i64_w, i32_w]
                                          rfl
                                        refine pure_ (i := 13) (N := some 82) (v := ?_) (a' := ?_) #[true, true, true, true, true, true, true, true, true, true, true, true, true, true, false, false, false, false, false, false, false, false] rfl rfl (any_of HT_.out (by kernel_rfl)) (fun _ _ _ h => h) (Or.inl ⟨by rfl, ?_⟩) ?_ ?_
                                        rotate_left
                                        · intro w'
                                          go_simp
                                          first | with_reducible rfl | (rw [if_neg (by have h1_ : (⟨#[10]⟩ : ByteArray).size = 1 := rfl; (try have hc26_ := of_decide_eq_true c26b1); (try have hc27_ := of_decide_eq_true c27b1); (try have hc28_ := of_decide_eq_true c28b1); (try have hc29_ := of_decide_eq_true c29b1); (try have hc30_ := of_decide_eq_true c30b1); (try have hc33_ := of_decide_eq_true c33b1); (try have hc34_ := of_decide_eq_true c34b1); (try have hc35_ := of_decide_eq_true c35b1); (try simp only [ByteArray.size_append, ByteArray.size_extract] at hc26_); (try simp only [ByteArray.size_append, ByteArray.size_extract] at hc27_); (try simp only [ByteArray.size_append, ByteArray.size_extract] at hc28_); (try simp only [ByteArray.size_append, ByteArray.size_extract] at hc29_); (try simp only [ByteArray.size_append, ByteArray.size_extract] at hc30_); (try simp only [ByteArray.size_append, ByteArray.size_extract] at hc33_); (try simp only [ByteArray.size_append, ByteArray.size_extract] at hc34_); (try simp only [ByteArray.size_append, ByteArray.size_extract] at hc35_); omega)]; try with_reducible rfl)
                                        rotate_left
                                        · simp only [Act.put, List.setIfInBounds_toArray, List.set_cons_zero, List.set_cons_succ, i64_w, i32_w]
                                          rfl
                                        refine one_ (i := 14) (N := some 83) #[true, true, true, true, true, true, true, true, true, true, true, true, true, true, true, false, false, false, false, false, false, false] rfl rfl (one_of HT_.out (by kernel_rfl)) (by decide) (fun K hK => ?_)
                                        refine goes_ Tryd.func12 (by kernel_rfl) rfl #[.string ((((((a1 ++ (⟨#[10]⟩ : ByteArray)) ++ (a0.extract 0 (x11_12 : Int).toNat)) ++ (a1 ++ (⟨#[10]⟩ : ByteArray))) ++ (a0.extract (x11_12 : Int).toNat a0.size)) ++ (⟨#[10]⟩ : ByteArray)) ++ a1)] (by rfl) rfl rfl (by (try simp only [List.map_toArray, List.map_cons, List.map_nil]); first | done | rfl | (simp only [List.length_drop, List.length_take]; rfl)) ?_
                                        with_reducible refine (lexer_Lex.calls ((((((a1 ++ (⟨#[10]⟩ : ByteArray)) ++ (a0.extract 0 (x11_12 : Int).toNat)) ++ (a1 ++ (⟨#[10]⟩ : ByteArray))) ++ (a0.extract (x11_12 : Int).toNat a0.size)) ++ (⟨#[10]⟩ : ByteArray)) ++ a1) t196 t197 t198 _ A36.out).mono ?_
                                        rintro e w41 ⟨v199, rfl, ho0, hb⟩
                                        refine ⟨_, rfl, ?_⟩
                                        have n0_ := Aside0.mk (Kd.R_elder' (by (with_reducible repeat (first | apply Kd.R_alloc | apply Kd.R_drewN | apply Kd.R_drew)); exact HO_8.out) (Kd.R_base ho0) hb)
                                        have n1_ := Aside0.mk (Kd.R_lower (Kd.R_new' ho0 (Kd.R_lt (by (with_reducible repeat (first | apply Kd.R_alloc | apply Kd.R_drewN | apply Kd.R_drew)); exact HO_8.out))) (below_size (by repeat (first | (with_reducible first | exact HB.out | apply below_alloc | apply pw_below_drewN | apply below_drew1) | exact HB.out))))
                                        have n2_ := Aside0.mk (below_step (by repeat (first | (with_reducible first | exact HB.out | apply below_alloc | apply pw_below_drewN | apply below_drew1) | exact HB.out)) hb)
                                        clear HO_8
                                        clear HB
                                        have HO_8 := n0_
                                        have HO200 := n1_
                                        have HB := n2_
                                        clear n0_ n1_ n2_
                                        (try clear hb)
                                        (try clear hb2)
                                        (try clear hk)
                                        (try clear hi)
                                        (try clear ho0)
                                        refine hK.out _ _ trivial (fun hHeld => ?_)
                                        clear hK K
                                        refine norm_ (a' := ?_) ?_ ?_
                                        rotate_left
                                        · show Act.put _ (some 83) _ = _
                                          simp only [Act.put, List.setIfInBounds_toArray, List.set_cons_zero, List.set_cons_succ, i64_w, i32_w]
                                          rfl
                                        refine pure_ (i := 15) (N := some 68) (v := ?_) (a' := ?_) #[true, true, true, true, true, true, true, true, true, true, true, true, true, true, true, true, false, false, false, false, false, false] rfl rfl (any_of HT_.out (by kernel_rfl)) (fun _ _ _ h => h) (Or.inl ⟨by rfl, ?_⟩) ?_ ?_
                                        rotate_left
                                        · intro w'
                                          go_simp
                                          first | with_reducible rfl | (rw [if_neg (by have h1_ : (⟨#[10]⟩ : ByteArray).size = 1 := rfl; (try have hc26_ := of_decide_eq_true c26b1); (try have hc27_ := of_decide_eq_true c27b1); (try have hc28_ := of_decide_eq_true c28b1); (try have hc29_ := of_decide_eq_true c29b1); (try have hc30_ := of_decide_eq_true c30b1); (try have hc33_ := of_decide_eq_true c33b1); (try have hc34_ := of_decide_eq_true c34b1); (try have hc35_ := of_decide_eq_true c35b1); (try simp only [ByteArray.size_append, ByteArray.size_extract] at hc26_); (try simp only [ByteArray.size_append, ByteArray.size_extract] at hc27_); (try simp only [ByteArray.size_append, ByteArray.size_extract] at hc28_); (try simp only [ByteArray.size_append, ByteArray.size_extract] at hc29_); (try simp only [ByteArray.size_append, ByteArray.size_extract] at hc30_); (try simp only [ByteArray.size_append, ByteArray.size_extract] at hc33_); (try simp only [ByteArray.size_append, ByteArray.size_extract] at hc34_); (try simp only [ByteArray.size_append, ByteArray.size_extract] at hc35_); omega)]; try with_reducible rfl)
                                        rotate_left
                                        · simp only [Act.put, List.setIfInBounds_toArray, List.set_cons_zero, List.set_cons_succ, i64_w, i32_w]
                                          rfl
                                        refine pure_ (i := 16) (N := some 84) (v := ?_) (a' := ?_) #[true, true, true, true, true, true, true, true, true, true, true, true, true, true, true, true, true, false, false, false, false, false] rfl rfl (any_of HT_.out (by kernel_rfl)) (fun _ _ _ h => h) (Or.inl ⟨by rfl, ?_⟩) ?_ ?_
                                        rotate_left
                                        · intro w'
                                          go_simp
                                          first | with_reducible rfl | (rw [if_neg (by have h1_ : (⟨#[10]⟩ : ByteArray).size = 1 := rfl; (try have hc26_ := of_decide_eq_true c26b1); (try have hc27_ := of_decide_eq_true c27b1); (try have hc28_ := of_decide_eq_true c28b1); (try have hc29_ := of_decide_eq_true c29b1); (try have hc30_ := of_decide_eq_true c30b1); (try have hc33_ := of_decide_eq_true c33b1); (try have hc34_ := of_decide_eq_true c34b1); (try have hc35_ := of_decide_eq_true c35b1); (try simp only [ByteArray.size_append, ByteArray.size_extract] at hc26_); (try simp only [ByteArray.size_append, ByteArray.size_extract] at hc27_); (try simp only [ByteArray.size_append, ByteArray.size_extract] at hc28_); (try simp only [ByteArray.size_append, ByteArray.size_extract] at hc29_); (try simp only [ByteArray.size_append, ByteArray.size_extract] at hc30_); (try simp only [ByteArray.size_append, ByteArray.size_extract] at hc33_); (try simp only [ByteArray.size_append, ByteArray.size_extract] at hc34_); (try simp only [ByteArray.size_append, ByteArray.size_extract] at hc35_); omega)]; try with_reducible rfl)
                                        rotate_left
                                        · simp only [Act.put, List.setIfInBounds_toArray, List.set_cons_zero, List.set_cons_succ, i64_w, i32_w]
                                          rfl
                                        refine pure_ (i := 17) (N := some 85) (v := ?_) (a' := ?_) #[true, true, true, true, true, true, true, true, true, true, true, true, true, true, true, true, true, true, false, false, false, false] rfl rfl (any_of HT_.out (by kernel_rfl)) (fun _ _ _ h => h) (Or.inl ⟨by rfl, ?_⟩) ?_ ?_
                                        rotate_left
                                        · intro w'
                                          go_simp
                                          first | with_reducible rfl | (rw [if_neg (by have h1_ : (⟨#[10]⟩ : ByteArray).size = 1 := rfl; (try have hc26_ := of_decide_eq_true c26b1); (try have hc27_ := of_decide_eq_true c27b1); (try have hc28_ := of_decide_eq_true c28b1); (try have hc29_ := of_decide_eq_true c29b1); (try have hc30_ := of_decide_eq_true c30b1); (try have hc33_ := of_decide_eq_true c33b1); (try have hc34_ := of_decide_eq_true c34b1); (try have hc35_ := of_decide_eq_true c35b1); (try simp only [ByteArray.size_append, ByteArray.size_extract] at hc26_); (try simp only [ByteArray.size_append, ByteArray.size_extract] at hc27_); (try simp only [ByteArray.size_append, ByteArray.size_extract] at hc28_); (try simp only [ByteArray.size_append, ByteArray.size_extract] at hc29_); (try simp only [ByteArray.size_append, ByteArray.size_extract] at hc30_); (try simp only [ByteArray.size_append, ByteArray.size_extract] at hc33_); (try simp only [ByteArray.size_append, ByteArray.size_extract] at hc34_); (try simp only [ByteArray.size_append, ByteArray.size_extract] at hc35_); omega)]; try with_reducible rfl)
                                        rotate_left
                                        · simp only [Act.put, List.setIfInBounds_toArray, List.set_cons_zero, List.set_cons_succ, i64_w, i32_w]
                                          rfl
                                        refine pure_ (i := 18) (N := some 86) (v := ?_) (a' := ?_) #[true, true, true, true, true, true, true, true, true, true, true, true, true, true, true, true, true, true, true, false, false, false] rfl rfl (any_of HT_.out (by kernel_rfl)) (fun _ _ _ h => h) (Or.inl ⟨by rfl, ?_⟩) ?_ ?_
                                        rotate_left
                                        · intro w'
                                          go_simp
                                          first | with_reducible rfl | (rw [if_neg (by have h1_ : (⟨#[10]⟩ : ByteArray).size = 1 := rfl; (try have hc26_ := of_decide_eq_true c26b1); (try have hc27_ := of_decide_eq_true c27b1); (try have hc28_ := of_decide_eq_true c28b1); (try have hc29_ := of_decide_eq_true c29b1); (try have hc30_ := of_decide_eq_true c30b1); (try have hc33_ := of_decide_eq_true c33b1); (try have hc34_ := of_decide_eq_true c34b1); (try have hc35_ := of_decide_eq_true c35b1); (try simp only [ByteArray.size_append, ByteArray.size_extract] at hc26_); (try simp only [ByteArray.size_append, ByteArray.size_extract] at hc27_); (try simp only [ByteArray.size_append, ByteArray.size_extract] at hc28_); (try simp only [ByteArray.size_append, ByteArray.size_extract] at hc29_); (try simp only [ByteArray.size_append, ByteArray.size_extract] at hc30_); (try simp only [ByteArray.size_append, ByteArray.size_extract] at hc33_); (try simp only [ByteArray.size_append, ByteArray.size_extract] at hc34_); (try simp only [ByteArray.size_append, ByteArray.size_extract] at hc35_); omega)]; try with_reducible rfl)
                                        rotate_left
                                        · simp only [Act.put, List.setIfInBounds_toArray, List.set_cons_zero, List.set_cons_succ, i64_w, i32_w]
                                          rfl
                                        refine pure_ (i := 19) (N := some 14) (v := ?_) (a' := ?_) #[true, true, true, true, true, true, true, true, true, true, true, true, true, true, true, true, true, true, true, true, false, false] rfl rfl (any_of HT_.out (by kernel_rfl)) (fun _ _ _ h => h) (Or.inl ⟨by rfl, ?_⟩) ?_ ?_
                                        rotate_left
                                        · intro w'
                                          go_simp
                                          first | with_reducible rfl | (rw [if_neg (by have h1_ : (⟨#[10]⟩ : ByteArray).size = 1 := rfl; (try have hc26_ := of_decide_eq_true c26b1); (try have hc27_ := of_decide_eq_true c27b1); (try have hc28_ := of_decide_eq_true c28b1); (try have hc29_ := of_decide_eq_true c29b1); (try have hc30_ := of_decide_eq_true c30b1); (try have hc33_ := of_decide_eq_true c33b1); (try have hc34_ := of_decide_eq_true c34b1); (try have hc35_ := of_decide_eq_true c35b1); (try simp only [ByteArray.size_append, ByteArray.size_extract] at hc26_); (try simp only [ByteArray.size_append, ByteArray.size_extract] at hc27_); (try simp only [ByteArray.size_append, ByteArray.size_extract] at hc28_); (try simp only [ByteArray.size_append, ByteArray.size_extract] at hc29_); (try simp only [ByteArray.size_append, ByteArray.size_extract] at hc30_); (try simp only [ByteArray.size_append, ByteArray.size_extract] at hc33_); (try simp only [ByteArray.size_append, ByteArray.size_extract] at hc34_); (try simp only [ByteArray.size_append, ByteArray.size_extract] at hc35_); omega)]; try with_reducible rfl)
                                        rotate_left
                                        · simp only [Act.put, List.setIfInBounds_toArray, List.set_cons_zero, List.set_cons_succ, i64_w, i32_w]
                                          rfl
                                        refine pure_ (i := 20) (N := some 15) (v := ?_) (a' := ?_) #[true, true, true, true, true, true, true, true, true, true, true, true, true, true, true, true, true, true, true, true, true, false] rfl rfl (any_of HT_.out (by kernel_rfl)) (fun _ _ _ h => h) (Or.inl ⟨by rfl, ?_⟩) ?_ ?_
                                        rotate_left
                                        · intro w'
                                          go_simp
                                          first | with_reducible rfl | (rw [if_neg (by have h1_ : (⟨#[10]⟩ : ByteArray).size = 1 := rfl; (try have hc26_ := of_decide_eq_true c26b1); (try have hc27_ := of_decide_eq_true c27b1); (try have hc28_ := of_decide_eq_true c28b1); (try have hc29_ := of_decide_eq_true c29b1); (try have hc30_ := of_decide_eq_true c30b1); (try have hc33_ := of_decide_eq_true c33b1); (try have hc34_ := of_decide_eq_true c34b1); (try have hc35_ := of_decide_eq_true c35b1); (try simp only [ByteArray.size_append, ByteArray.size_extract] at hc26_); (try simp only [ByteArray.size_append, ByteArray.size_extract] at hc27_); (try simp only [ByteArray.size_append, ByteArray.size_extract] at hc28_); (try simp only [ByteArray.size_append, ByteArray.size_extract] at hc29_); (try simp only [ByteArray.size_append, ByteArray.size_extract] at hc30_); (try simp only [ByteArray.size_append, ByteArray.size_extract] at hc33_); (try simp only [ByteArray.size_append, ByteArray.size_extract] at hc34_); (try simp only [ByteArray.size_append, ByteArray.size_extract] at hc35_); omega)]; try with_reducible rfl)
                                        rotate_left
                                        · simp only [Act.put, List.setIfInBounds_toArray, List.set_cons_zero, List.set_cons_succ, i64_w, i32_w]
                                          rfl
                                        refine pure_ (i := 21) (N := some 16) (v := ?_) (a' := ?_) #[true, true, true, true, true, true, true, true, true, true, true, true, true, true, true, true, true, true, true, true, true, true] rfl rfl (any_of HT_.out (by kernel_rfl)) (fun _ _ _ h => h) (Or.inl ⟨by rfl, ?_⟩) ?_ ?_
                                        rotate_left
                                        · intro w'
                                          go_simp
                                          first | with_reducible rfl | (rw [if_neg (by have h1_ : (⟨#[10]⟩ : ByteArray).size = 1 := rfl; (try have hc26_ := of_decide_eq_true c26b1); (try have hc27_ := of_decide_eq_true c27b1); (try have hc28_ := of_decide_eq_true c28b1); (try have hc29_ := of_decide_eq_true c29b1); (try have hc30_ := of_decide_eq_true c30b1); (try have hc33_ := of_decide_eq_true c33b1); (try have hc34_ := of_decide_eq_true c34b1); (try have hc35_ := of_decide_eq_true c35b1); (try simp only [ByteArray.size_append, ByteArray.size_extract] at hc26_); (try simp only [ByteArray.size_append, ByteArray.size_extract] at hc27_); (try simp only [ByteArray.size_append, ByteArray.size_extract] at hc28_); (try simp only [ByteArray.size_append, ByteArray.size_extract] at hc29_); (try simp only [ByteArray.size_append, ByteArray.size_extract] at hc30_); (try simp only [ByteArray.size_append, ByteArray.size_extract] at hc33_); (try simp only [ByteArray.size_append, ByteArray.size_extract] at hc34_); (try simp only [ByteArray.size_append, ByteArray.size_extract] at hc35_); omega)]; try with_reducible rfl)
                                        rotate_left
                                        · simp only [Act.put, List.setIfInBounds_toArray, List.set_cons_zero, List.set_cons_succ, i64_w, i32_w]
                                          rfl
                                        refine done_ (done_of HT_.out (by kernel_rfl)) ?_
                                        obtain ⟨Ao42, co42, eo42⟩ := Kd.R_slice HO200.out
                                        subst eo42
                                        try go_wp2_with (first | (go_at_call 17; (with_reducible refine (pandectref05_Alike.calls kj22 _ _ t189 _ _ t196 t201 _ ?side1 ?side2 ?side3 ?side4 A39.out).mono ?_); (case side1 => repeat (first | exact (Kd.R_reads' HO_8.out).2.2 | (with_reducible refine Kd.C_alloc ?_ _) | (with_reducible refine Kd.C_drewN ?_ _) | (with_reducible refine Kd.C_drew ?_))); (case side2 => exact (Kd.R_reads' HO_8.out).2.1); (case side3 => repeat (first | exact (Kd.R_reads' HO200.out).2.2 | (with_reducible refine Kd.C_alloc ?_ _) | (with_reducible refine Kd.C_drewN ?_ _) | (with_reducible refine Kd.C_drew ?_))); (case side4 => exact (Kd.R_reads' HO200.out).2.1); rintro e w' ⟨rfl, ⟨nd, rfl⟩⟩))
                                        go_ret
                                        exact ⟨by first | rfl | (simp [errW_none, errW_some] <;> rfl) | (simp [*, errW_none, errW_some] <;> rfl), by repeat (first | (with_reducible first | exact HB.out | apply below_alloc | apply pw_below_drewN | apply below_drew1) | exact HB.out)⟩
                                      · rw [if_neg c38] at H
                                        have c38b0 : (t197 == 0) = false := beq_eq_false_iff_ne.mpr c38
                                        have c38b1 : (t197 != 0) = true := bne_iff_ne.mpr c38
                                        obtain rfl := Option.some.inj H
                                        try go_wp2
                                        have n0_ := Aside0.mk (Kd.R_drew HO_8.out)
                                        have n1_ := Aside0.mk (below_drew1 HB.out)
                                        clear HO_8
                                        clear HB
                                        have HO_8 := n0_
                                        have HB := n1_
                                        clear n0_ n1_
                                        refine start_ (n := 22) (S := fun w' => True) (ds := []) #[false, false, false, false, false, false, false, false, false, false, false, false, false, false, false, false, false, false, false, false, false, false] (by kernel_rfl) rfl rfl trivial (fun hHeld => ?_); refine with_tabW pandectlaw05_LexerGaps.tab14 pandectlaw05_LexerGaps.bits14 (fun HT_ HW_ => ?_)
                                        generalize wc.drew = w43 at HO_8 HB hHeld ⊢
                                        refine pure_ (i := 0) (N := some 69) (v := ?_) (a' := ?_) #[true, false, false, false, false, false, false, false, false, false, false, false, false, false, false, false, false, false, false, false, false, false] rfl rfl (any_of HT_.out (by kernel_rfl)) (fun _ _ _ h => h) (Or.inl ⟨by rfl, ?_⟩) ?_ ?_
                                        rotate_left
                                        · intro w'
                                          go_simp
                                          first | with_reducible rfl | (rw [if_neg (by have h1_ : (⟨#[10]⟩ : ByteArray).size = 1 := rfl; (try have hc26_ := of_decide_eq_true c26b1); (try have hc27_ := of_decide_eq_true c27b1); (try have hc28_ := of_decide_eq_true c28b1); (try have hc29_ := of_decide_eq_true c29b1); (try have hc30_ := of_decide_eq_true c30b1); (try have hc33_ := of_decide_eq_true c33b1); (try have hc34_ := of_decide_eq_true c34b1); (try have hc35_ := of_decide_eq_true c35b1); (try simp only [ByteArray.size_append, ByteArray.size_extract] at hc26_); (try simp only [ByteArray.size_append, ByteArray.size_extract] at hc27_); (try simp only [ByteArray.size_append, ByteArray.size_extract] at hc28_); (try simp only [ByteArray.size_append, ByteArray.size_extract] at hc29_); (try simp only [ByteArray.size_append, ByteArray.size_extract] at hc30_); (try simp only [ByteArray.size_append, ByteArray.size_extract] at hc33_); (try simp only [ByteArray.size_append, ByteArray.size_extract] at hc34_); (try simp only [ByteArray.size_append, ByteArray.size_extract] at hc35_); omega)]; try with_reducible rfl)
                                        rotate_left
                                        · simp only [Act.put, List.setIfInBounds_toArray, List.set_cons_zero, List.set_cons_succ, i64_w, i32_w]
                                          rfl
                                        refine pure_ (i := 1) (N := some 70) (v := ?_) (a' := ?_) #[true, true, false, false, false, false, false, false, false, false, false, false, false, false, false, false, false, false, false, false, false, false] rfl rfl (any_of HT_.out (by kernel_rfl)) (fun _ _ _ h => h) (Or.inl ⟨by rfl, ?_⟩) ?_ ?_
                                        rotate_left
                                        · intro w'
                                          go_simp
                                          first | with_reducible rfl | (rw [if_neg (by have h1_ : (⟨#[10]⟩ : ByteArray).size = 1 := rfl; (try have hc26_ := of_decide_eq_true c26b1); (try have hc27_ := of_decide_eq_true c27b1); (try have hc28_ := of_decide_eq_true c28b1); (try have hc29_ := of_decide_eq_true c29b1); (try have hc30_ := of_decide_eq_true c30b1); (try have hc33_ := of_decide_eq_true c33b1); (try have hc34_ := of_decide_eq_true c34b1); (try have hc35_ := of_decide_eq_true c35b1); (try simp only [ByteArray.size_append, ByteArray.size_extract] at hc26_); (try simp only [ByteArray.size_append, ByteArray.size_extract] at hc27_); (try simp only [ByteArray.size_append, ByteArray.size_extract] at hc28_); (try simp only [ByteArray.size_append, ByteArray.size_extract] at hc29_); (try simp only [ByteArray.size_append, ByteArray.size_extract] at hc30_); (try simp only [ByteArray.size_append, ByteArray.size_extract] at hc33_); (try simp only [ByteArray.size_append, ByteArray.size_extract] at hc34_); (try simp only [ByteArray.size_append, ByteArray.size_extract] at hc35_); omega)]; try with_reducible rfl)
                                        rotate_left
                                        · simp only [Act.put, List.setIfInBounds_toArray, List.set_cons_zero, List.set_cons_succ, i64_w, i32_w]
                                          rfl
                                        refine pure_ (i := 2) (N := some 71) (v := ?_) (a' := ?_) #[true, true, true, false, false, false, false, false, false, false, false, false, false, false, false, false, false, false, false, false, false, false] rfl rfl (any_of HT_.out (by kernel_rfl)) (fun _ _ _ h => h) (Or.inl ⟨by rfl, ?_⟩) ?_ ?_
                                        rotate_left
                                        · intro w'
                                          go_simp
                                          first | with_reducible rfl | (rw [if_neg (by have h1_ : (⟨#[10]⟩ : ByteArray).size = 1 := rfl; (try have hc26_ := of_decide_eq_true c26b1); (try have hc27_ := of_decide_eq_true c27b1); (try have hc28_ := of_decide_eq_true c28b1); (try have hc29_ := of_decide_eq_true c29b1); (try have hc30_ := of_decide_eq_true c30b1); (try have hc33_ := of_decide_eq_true c33b1); (try have hc34_ := of_decide_eq_true c34b1); (try have hc35_ := of_decide_eq_true c35b1); (try simp only [ByteArray.size_append, ByteArray.size_extract] at hc26_); (try simp only [ByteArray.size_append, ByteArray.size_extract] at hc27_); (try simp only [ByteArray.size_append, ByteArray.size_extract] at hc28_); (try simp only [ByteArray.size_append, ByteArray.size_extract] at hc29_); (try simp only [ByteArray.size_append, ByteArray.size_extract] at hc30_); (try simp only [ByteArray.size_append, ByteArray.size_extract] at hc33_); (try simp only [ByteArray.size_append, ByteArray.size_extract] at hc34_); (try simp only [ByteArray.size_append, ByteArray.size_extract] at hc35_); omega)]; try with_reducible rfl)
                                        rotate_left
                                        · simp only [Act.put, List.setIfInBounds_toArray, List.set_cons_zero, List.set_cons_succ, i64_w, i32_w]
                                          rfl
                                        refine pure_ (i := 3) (N := some 72) (v := ?_) (a' := ?_) #[true, true, true, true, false, false, false, false, false, false, false, false, false, false, false, false, false, false, false, false, false, false] rfl rfl (any_of HT_.out (by kernel_rfl)) (fun _ _ _ h => h) (Or.inl ⟨by rfl, ?_⟩) ?_ ?_
                                        rotate_left
                                        · intro w'
                                          go_simp
                                          first | with_reducible rfl | (rw [if_neg (by have h1_ : (⟨#[10]⟩ : ByteArray).size = 1 := rfl; (try have hc26_ := of_decide_eq_true c26b1); (try have hc27_ := of_decide_eq_true c27b1); (try have hc28_ := of_decide_eq_true c28b1); (try have hc29_ := of_decide_eq_true c29b1); (try have hc30_ := of_decide_eq_true c30b1); (try have hc33_ := of_decide_eq_true c33b1); (try have hc34_ := of_decide_eq_true c34b1); (try have hc35_ := of_decide_eq_true c35b1); (try simp only [ByteArray.size_append, ByteArray.size_extract] at hc26_); (try simp only [ByteArray.size_append, ByteArray.size_extract] at hc27_); (try simp only [ByteArray.size_append, ByteArray.size_extract] at hc28_); (try simp only [ByteArray.size_append, ByteArray.size_extract] at hc29_); (try simp only [ByteArray.size_append, ByteArray.size_extract] at hc30_); (try simp only [ByteArray.size_append, ByteArray.size_extract] at hc33_); (try simp only [ByteArray.size_append, ByteArray.size_extract] at hc34_); (try simp only [ByteArray.size_append, ByteArray.size_extract] at hc35_); omega)]; try with_reducible rfl)
                                        rotate_left
                                        · simp only [Act.put, List.setIfInBounds_toArray, List.set_cons_zero, List.set_cons_succ, i64_w, i32_w]
                                          rfl
                                        refine pure_ (i := 4) (N := some 73) (v := ?_) (a' := ?_) #[true, true, true, true, true, false, false, false, false, false, false, false, false, false, false, false, false, false, false, false, false, false] rfl rfl (any_of HT_.out (by kernel_rfl)) (fun _ _ _ h => h) (Or.inl ⟨by rfl, ?_⟩) ?_ ?_
                                        rotate_left
                                        · intro w'
                                          go_simp
                                          first | with_reducible rfl | (rw [if_neg (by have h1_ : (⟨#[10]⟩ : ByteArray).size = 1 := rfl; (try have hc26_ := of_decide_eq_true c26b1); (try have hc27_ := of_decide_eq_true c27b1); (try have hc28_ := of_decide_eq_true c28b1); (try have hc29_ := of_decide_eq_true c29b1); (try have hc30_ := of_decide_eq_true c30b1); (try have hc33_ := of_decide_eq_true c33b1); (try have hc34_ := of_decide_eq_true c34b1); (try have hc35_ := of_decide_eq_true c35b1); (try simp only [ByteArray.size_append, ByteArray.size_extract] at hc26_); (try simp only [ByteArray.size_append, ByteArray.size_extract] at hc27_); (try simp only [ByteArray.size_append, ByteArray.size_extract] at hc28_); (try simp only [ByteArray.size_append, ByteArray.size_extract] at hc29_); (try simp only [ByteArray.size_append, ByteArray.size_extract] at hc30_); (try simp only [ByteArray.size_append, ByteArray.size_extract] at hc33_); (try simp only [ByteArray.size_append, ByteArray.size_extract] at hc34_); (try simp only [ByteArray.size_append, ByteArray.size_extract] at hc35_); omega)]; try with_reducible rfl)
                                        rotate_left
                                        · simp only [Act.put, List.setIfInBounds_toArray, List.set_cons_zero, List.set_cons_succ, i64_w, i32_w]
                                          rfl
                                        refine pure_ (i := 5) (N := some 74) (v := ?_) (a' := ?_) #[true, true, true, true, true, true, false, false, false, false, false, false, false, false, false, false, false, false, false, false, false, false] rfl rfl (any_of HT_.out (by kernel_rfl)) (fun _ _ _ h => h) (Or.inl ⟨by rfl, ?_⟩) ?_ ?_
                                        rotate_left
                                        · intro w'
                                          go_simp
                                          first | with_reducible rfl | (rw [if_neg (by have h1_ : (⟨#[10]⟩ : ByteArray).size = 1 := rfl; (try have hc26_ := of_decide_eq_true c26b1); (try have hc27_ := of_decide_eq_true c27b1); (try have hc28_ := of_decide_eq_true c28b1); (try have hc29_ := of_decide_eq_true c29b1); (try have hc30_ := of_decide_eq_true c30b1); (try have hc33_ := of_decide_eq_true c33b1); (try have hc34_ := of_decide_eq_true c34b1); (try have hc35_ := of_decide_eq_true c35b1); (try simp only [ByteArray.size_append, ByteArray.size_extract] at hc26_); (try simp only [ByteArray.size_append, ByteArray.size_extract] at hc27_); (try simp only [ByteArray.size_append, ByteArray.size_extract] at hc28_); (try simp only [ByteArray.size_append, ByteArray.size_extract] at hc29_); (try simp only [ByteArray.size_append, ByteArray.size_extract] at hc30_); (try simp only [ByteArray.size_append, ByteArray.size_extract] at hc33_); (try simp only [ByteArray.size_append, ByteArray.size_extract] at hc34_); (try simp only [ByteArray.size_append, ByteArray.size_extract] at hc35_); omega)]; try with_reducible rfl)
                                        rotate_left
                                        · simp only [Act.put, List.setIfInBounds_toArray, List.set_cons_zero, List.set_cons_succ, i64_w, i32_w]
                                          rfl
                                        refine pure_ (i := 6) (N := some 75) (v := ?_) (a' := ?_) #[true, true, true, true, true, true, true, false, false, false, false, false, false, false, false, false, false, false, false, false, false, false] rfl rfl (any_of HT_.out (by kernel_rfl)) (fun _ _ _ h => h) (Or.inl ⟨by rfl, ?_⟩) ?_ ?_
                                        rotate_left
                                        · intro w'
                                          go_simp
                                          first | with_reducible rfl | (rw [if_neg (by have h1_ : (⟨#[10]⟩ : ByteArray).size = 1 := rfl; (try have hc26_ := of_decide_eq_true c26b1); (try have hc27_ := of_decide_eq_true c27b1); (try have hc28_ := of_decide_eq_true c28b1); (try have hc29_ := of_decide_eq_true c29b1); (try have hc30_ := of_decide_eq_true c30b1); (try have hc33_ := of_decide_eq_true c33b1); (try have hc34_ := of_decide_eq_true c34b1); (try have hc35_ := of_decide_eq_true c35b1); (try simp only [ByteArray.size_append, ByteArray.size_extract] at hc26_); (try simp only [ByteArray.size_append, ByteArray.size_extract] at hc27_); (try simp only [ByteArray.size_append, ByteArray.size_extract] at hc28_); (try simp only [ByteArray.size_append, ByteArray.size_extract] at hc29_); (try simp only [ByteArray.size_append, ByteArray.size_extract] at hc30_); (try simp only [ByteArray.size_append, ByteArray.size_extract] at hc33_); (try simp only [ByteArray.size_append, ByteArray.size_extract] at hc34_); (try simp only [ByteArray.size_append, ByteArray.size_extract] at hc35_); omega)]; try with_reducible rfl)
                                        rotate_left
                                        · simp only [Act.put, List.setIfInBounds_toArray, List.set_cons_zero, List.set_cons_succ, i64_w, i32_w]
                                          rfl
                                        refine pure_ (i := 7) (N := some 76) (v := ?_) (a' := ?_) #[true, true, true, true, true, true, true, true, false, false, false, false, false, false, false, false, false, false, false, false, false, false] rfl rfl (any_of HT_.out (by kernel_rfl)) (fun _ _ _ h => h) (Or.inl ⟨by rfl, ?_⟩) ?_ ?_
                                        rotate_left
                                        · intro w'
                                          go_simp
                                          first | with_reducible rfl | (rw [if_neg (by have h1_ : (⟨#[10]⟩ : ByteArray).size = 1 := rfl; (try have hc26_ := of_decide_eq_true c26b1); (try have hc27_ := of_decide_eq_true c27b1); (try have hc28_ := of_decide_eq_true c28b1); (try have hc29_ := of_decide_eq_true c29b1); (try have hc30_ := of_decide_eq_true c30b1); (try have hc33_ := of_decide_eq_true c33b1); (try have hc34_ := of_decide_eq_true c34b1); (try have hc35_ := of_decide_eq_true c35b1); (try simp only [ByteArray.size_append, ByteArray.size_extract] at hc26_); (try simp only [ByteArray.size_append, ByteArray.size_extract] at hc27_); (try simp only [ByteArray.size_append, ByteArray.size_extract] at hc28_); (try simp only [ByteArray.size_append, ByteArray.size_extract] at hc29_); (try simp only [ByteArray.size_append, ByteArray.size_extract] at hc30_); (try simp only [ByteArray.size_append, ByteArray.size_extract] at hc33_); (try simp only [ByteArray.size_append, ByteArray.size_extract] at hc34_); (try simp only [ByteArray.size_append, ByteArray.size_extract] at hc35_); omega)]; try with_reducible rfl)
                                        rotate_left
                                        · simp only [Act.put, List.setIfInBounds_toArray, List.set_cons_zero, List.set_cons_succ, i64_w, i32_w]
                                          rfl
                                        refine pure_ (i := 8) (N := some 77) (v := ?_) (a' := ?_) #[true, true, true, true, true, true, true, true, true, false, false, false, false, false, false, false, false, false, false, false, false, false] rfl rfl (any_of HT_.out (by kernel_rfl)) (fun _ _ _ h => h) (Or.inl ⟨by rfl, ?_⟩) ?_ ?_
                                        rotate_left
                                        · intro w'
                                          go_simp
                                          first | with_reducible rfl | (rw [if_neg (by have h1_ : (⟨#[10]⟩ : ByteArray).size = 1 := rfl; (try have hc26_ := of_decide_eq_true c26b1); (try have hc27_ := of_decide_eq_true c27b1); (try have hc28_ := of_decide_eq_true c28b1); (try have hc29_ := of_decide_eq_true c29b1); (try have hc30_ := of_decide_eq_true c30b1); (try have hc33_ := of_decide_eq_true c33b1); (try have hc34_ := of_decide_eq_true c34b1); (try have hc35_ := of_decide_eq_true c35b1); (try simp only [ByteArray.size_append, ByteArray.size_extract] at hc26_); (try simp only [ByteArray.size_append, ByteArray.size_extract] at hc27_); (try simp only [ByteArray.size_append, ByteArray.size_extract] at hc28_); (try simp only [ByteArray.size_append, ByteArray.size_extract] at hc29_); (try simp only [ByteArray.size_append, ByteArray.size_extract] at hc30_); (try simp only [ByteArray.size_append, ByteArray.size_extract] at hc33_); (try simp only [ByteArray.size_append, ByteArray.size_extract] at hc34_); (try simp only [ByteArray.size_append, ByteArray.size_extract] at hc35_); omega)]; try with_reducible rfl)
                                        rotate_left
                                        · simp only [Act.put, List.setIfInBounds_toArray, List.set_cons_zero, List.set_cons_succ, i64_w, i32_w]
                                          rfl
                                        refine pure_ (i := 9) (N := some 78) (v := ?_) (a' := ?_) #[true, true, true, true, true, true, true, true, true, true, false, false, false, false, false, false, false, false, false, false, false, false] rfl rfl (any_of HT_.out (by kernel_rfl)) (fun _ _ _ h => h) (Or.inl ⟨by rfl, ?_⟩) ?_ ?_
                                        rotate_left
                                        · intro w'
                                          go_simp
                                          first | with_reducible rfl | (rw [if_neg (by have h1_ : (⟨#[10]⟩ : ByteArray).size = 1 := rfl; (try have hc26_ := of_decide_eq_true c26b1); (try have hc27_ := of_decide_eq_true c27b1); (try have hc28_ := of_decide_eq_true c28b1); (try have hc29_ := of_decide_eq_true c29b1); (try have hc30_ := of_decide_eq_true c30b1); (try have hc33_ := of_decide_eq_true c33b1); (try have hc34_ := of_decide_eq_true c34b1); (try have hc35_ := of_decide_eq_true c35b1); (try simp only [ByteArray.size_append, ByteArray.size_extract] at hc26_); (try simp only [ByteArray.size_append, ByteArray.size_extract] at hc27_); (try simp only [ByteArray.size_append, ByteArray.size_extract] at hc28_); (try simp only [ByteArray.size_append, ByteArray.size_extract] at hc29_); (try simp only [ByteArray.size_append, ByteArray.size_extract] at hc30_); (try simp only [ByteArray.size_append, ByteArray.size_extract] at hc33_); (try simp only [ByteArray.size_append, ByteArray.size_extract] at hc34_); (try simp only [ByteArray.size_append, ByteArray.size_extract] at hc35_); omega)]; try with_reducible rfl)
                                        rotate_left
                                        · simp only [Act.put, List.setIfInBounds_toArray, List.set_cons_zero, List.set_cons_succ, i64_w, i32_w]
                                          rfl
                                        refine pure_ (i := 10) (N := some 79) (v := ?_) (a' := ?_) #[true, true, true, true, true, true, true, true, true, true, true, false, false, false, false, false, false, false, false, false, false, false] rfl rfl (any_of HT_.out (by kernel_rfl)) (fun _ _ _ h => h) (Or.inl ⟨by rfl, ?_⟩) ?_ ?_
                                        rotate_left
                                        · intro w'
                                          go_simp
                                          first | with_reducible rfl | (rw [if_neg (by have h1_ : (⟨#[10]⟩ : ByteArray).size = 1 := rfl; (try have hc26_ := of_decide_eq_true c26b1); (try have hc27_ := of_decide_eq_true c27b1); (try have hc28_ := of_decide_eq_true c28b1); (try have hc29_ := of_decide_eq_true c29b1); (try have hc30_ := of_decide_eq_true c30b1); (try have hc33_ := of_decide_eq_true c33b1); (try have hc34_ := of_decide_eq_true c34b1); (try have hc35_ := of_decide_eq_true c35b1); (try simp only [ByteArray.size_append, ByteArray.size_extract] at hc26_); (try simp only [ByteArray.size_append, ByteArray.size_extract] at hc27_); (try simp only [ByteArray.size_append, ByteArray.size_extract] at hc28_); (try simp only [ByteArray.size_append, ByteArray.size_extract] at hc29_); (try simp only [ByteArray.size_append, ByteArray.size_extract] at hc30_); (try simp only [ByteArray.size_append, ByteArray.size_extract] at hc33_); (try simp only [ByteArray.size_append, ByteArray.size_extract] at hc34_); (try simp only [ByteArray.size_append, ByteArray.size_extract] at hc35_); omega)]; try with_reducible rfl)
                                        rotate_left
                                        · simp only [Act.put, List.setIfInBounds_toArray, List.set_cons_zero, List.set_cons_succ, i64_w, i32_w]
                                          rfl
                                        refine pure_ (i := 11) (N := some 80) (v := ?_) (a' := ?_) #[true, true, true, true, true, true, true, true, true, true, true, true, false, false, false, false, false, false, false, false, false, false] rfl rfl (any_of HT_.out (by kernel_rfl)) (fun _ _ _ h => h) (Or.inl ⟨by rfl, ?_⟩) ?_ ?_
                                        rotate_left
                                        · intro w'
                                          go_simp
                                          first | with_reducible rfl | (rw [if_neg (by have h1_ : (⟨#[10]⟩ : ByteArray).size = 1 := rfl; (try have hc26_ := of_decide_eq_true c26b1); (try have hc27_ := of_decide_eq_true c27b1); (try have hc28_ := of_decide_eq_true c28b1); (try have hc29_ := of_decide_eq_true c29b1); (try have hc30_ := of_decide_eq_true c30b1); (try have hc33_ := of_decide_eq_true c33b1); (try have hc34_ := of_decide_eq_true c34b1); (try have hc35_ := of_decide_eq_true c35b1); (try simp only [ByteArray.size_append, ByteArray.size_extract] at hc26_); (try simp only [ByteArray.size_append, ByteArray.size_extract] at hc27_); (try simp only [ByteArray.size_append, ByteArray.size_extract] at hc28_); (try simp only [ByteArray.size_append, ByteArray.size_extract] at hc29_); (try simp only [ByteArray.size_append, ByteArray.size_extract] at hc30_); (try simp only [ByteArray.size_append, ByteArray.size_extract] at hc33_); (try simp only [ByteArray.size_append, ByteArray.size_extract] at hc34_); (try simp only [ByteArray.size_append, ByteArray.size_extract] at hc35_); omega)]; try with_reducible rfl)
                                        rotate_left
                                        · simp only [Act.put, List.setIfInBounds_toArray, List.set_cons_zero, List.set_cons_succ, i64_w, i32_w]
                                          rfl
                                        refine pure_ (i := 12) (N := some 81) (v := ?_) (a' := ?_) #[true, true, true, true, true, true, true, true, true, true, true, true, true, false, false, false, false, false, false, false, false, false] rfl rfl (any_of HT_.out (by kernel_rfl)) (fun _ _ _ h => h) (Or.inl ⟨by rfl, ?_⟩) ?_ ?_
                                        rotate_left
                                        · intro w'
                                          go_simp
                                          first | with_reducible rfl | (rw [if_neg (by have h1_ : (⟨#[10]⟩ : ByteArray).size = 1 := rfl; (try have hc26_ := of_decide_eq_true c26b1); (try have hc27_ := of_decide_eq_true c27b1); (try have hc28_ := of_decide_eq_true c28b1); (try have hc29_ := of_decide_eq_true c29b1); (try have hc30_ := of_decide_eq_true c30b1); (try have hc33_ := of_decide_eq_true c33b1); (try have hc34_ := of_decide_eq_true c34b1); (try have hc35_ := of_decide_eq_true c35b1); (try simp only [ByteArray.size_append, ByteArray.size_extract] at hc26_); (try simp only [ByteArray.size_append, ByteArray.size_extract] at hc27_); (try simp only [ByteArray.size_append, ByteArray.size_extract] at hc28_); (try simp only [ByteArray.size_append, ByteArray.size_extract] at hc29_); (try simp only [ByteArray.size_append, ByteArray.size_extract] at hc30_); (try simp only [ByteArray.size_append, ByteArray.size_extract] at hc33_); (try simp only [ByteArray.size_append, ByteArray.size_extract] at hc34_); (try simp only [ByteArray.size_append, ByteArray.size_extract] at hc35_); omega)]; try with_reducible rfl)
                                        rotate_left
                                        · simp only [Act.put, List.setIfInBounds_toArray, List.set_cons_zero, List.set_cons_succ, i64_w, i32_w]
                                          rfl
                                        refine pure_ (i := 13) (N := some 82) (v := ?_) (a' := ?_) #[true, true, true, true, true, true, true, true, true, true, true, true, true, true, false, false, false, false, false, false, false, false] rfl rfl (any_of HT_.out (by kernel_rfl)) (fun _ _ _ h => h) (Or.inl ⟨by rfl, ?_⟩) ?_ ?_
                                        rotate_left
                                        · intro w'
                                          go_simp
                                          first | with_reducible rfl | (rw [if_neg (by have h1_ : (⟨#[10]⟩ : ByteArray).size = 1 := rfl; (try have hc26_ := of_decide_eq_true c26b1); (try have hc27_ := of_decide_eq_true c27b1); (try have hc28_ := of_decide_eq_true c28b1); (try have hc29_ := of_decide_eq_true c29b1); (try have hc30_ := of_decide_eq_true c30b1); (try have hc33_ := of_decide_eq_true c33b1); (try have hc34_ := of_decide_eq_true c34b1); (try have hc35_ := of_decide_eq_true c35b1); (try simp only [ByteArray.size_append, ByteArray.size_extract] at hc26_); (try simp only [ByteArray.size_append, ByteArray.size_extract] at hc27_); (try simp only [ByteArray.size_append, ByteArray.size_extract] at hc28_); (try simp only [ByteArray.size_append, ByteArray.size_extract] at hc29_); (try simp only [ByteArray.size_append, ByteArray.size_extract] at hc30_); (try simp only [ByteArray.size_append, ByteArray.size_extract] at hc33_); (try simp only [ByteArray.size_append, ByteArray.size_extract] at hc34_); (try simp only [ByteArray.size_append, ByteArray.size_extract] at hc35_); omega)]; try with_reducible rfl)
                                        rotate_left
                                        · simp only [Act.put, List.setIfInBounds_toArray, List.set_cons_zero, List.set_cons_succ, i64_w, i32_w]
                                          rfl
                                        refine one_ (i := 14) (N := some 83) #[true, true, true, true, true, true, true, true, true, true, true, true, true, true, true, false, false, false, false, false, false, false] rfl rfl (one_of HT_.out (by kernel_rfl)) (by decide) (fun K hK => ?_)
                                        refine goes_ Tryd.func12 (by kernel_rfl) rfl #[.string ((((((a1 ++ (⟨#[10]⟩ : ByteArray)) ++ (a0.extract 0 (x11_12 : Int).toNat)) ++ (a1 ++ (⟨#[10]⟩ : ByteArray))) ++ (a0.extract (x11_12 : Int).toNat a0.size)) ++ (⟨#[10]⟩ : ByteArray)) ++ a1)] (by rfl) rfl rfl (by (try simp only [List.map_toArray, List.map_cons, List.map_nil]); first | done | rfl | (simp only [List.length_drop, List.length_take]; rfl)) ?_
                                        with_reducible refine (lexer_Lex.calls ((((((a1 ++ (⟨#[10]⟩ : ByteArray)) ++ (a0.extract 0 (x11_12 : Int).toNat)) ++ (a1 ++ (⟨#[10]⟩ : ByteArray))) ++ (a0.extract (x11_12 : Int).toNat a0.size)) ++ (⟨#[10]⟩ : ByteArray)) ++ a1) t196 t197 t198 _ A36.out).mono ?_
                                        rintro e w44 ⟨v199, rfl, ho0, hb⟩
                                        refine ⟨_, rfl, ?_⟩
                                        have n0_ := Aside0.mk (Kd.R_elder' (by (with_reducible repeat (first | apply Kd.R_alloc | apply Kd.R_drewN | apply Kd.R_drew)); exact HO_8.out) (Kd.R_base ho0) hb)
                                        have n1_ := Aside0.mk (Kd.R_lower (Kd.R_new' ho0 (Kd.R_lt (by (with_reducible repeat (first | apply Kd.R_alloc | apply Kd.R_drewN | apply Kd.R_drew)); exact HO_8.out))) (below_size (by repeat (first | (with_reducible first | exact HB.out | apply below_alloc | apply pw_below_drewN | apply below_drew1) | exact HB.out))))
                                        have n2_ := Aside0.mk (below_step (by repeat (first | (with_reducible first | exact HB.out | apply below_alloc | apply pw_below_drewN | apply below_drew1) | exact HB.out)) hb)
                                        clear HO_8
                                        clear HB
                                        have HO_8 := n0_
                                        have HO200 := n1_
                                        have HB := n2_
                                        clear n0_ n1_ n2_
                                        (try clear hb)
                                        (try clear hb2)
                                        (try clear hk)
                                        (try clear hi)
                                        (try clear ho0)
                                        refine hK.out _ _ trivial (fun hHeld => ?_)
                                        clear hK K
                                        refine norm_ (a' := ?_) ?_ ?_
                                        rotate_left
                                        · show Act.put _ (some 83) _ = _
                                          simp only [Act.put, List.setIfInBounds_toArray, List.set_cons_zero, List.set_cons_succ, i64_w, i32_w]
                                          rfl
                                        refine pure_ (i := 15) (N := some 68) (v := ?_) (a' := ?_) #[true, true, true, true, true, true, true, true, true, true, true, true, true, true, true, true, false, false, false, false, false, false] rfl rfl (any_of HT_.out (by kernel_rfl)) (fun _ _ _ h => h) (Or.inl ⟨by rfl, ?_⟩) ?_ ?_
                                        rotate_left
                                        · intro w'
                                          go_simp
                                          first | with_reducible rfl | (rw [if_neg (by have h1_ : (⟨#[10]⟩ : ByteArray).size = 1 := rfl; (try have hc26_ := of_decide_eq_true c26b1); (try have hc27_ := of_decide_eq_true c27b1); (try have hc28_ := of_decide_eq_true c28b1); (try have hc29_ := of_decide_eq_true c29b1); (try have hc30_ := of_decide_eq_true c30b1); (try have hc33_ := of_decide_eq_true c33b1); (try have hc34_ := of_decide_eq_true c34b1); (try have hc35_ := of_decide_eq_true c35b1); (try simp only [ByteArray.size_append, ByteArray.size_extract] at hc26_); (try simp only [ByteArray.size_append, ByteArray.size_extract] at hc27_); (try simp only [ByteArray.size_append, ByteArray.size_extract] at hc28_); (try simp only [ByteArray.size_append, ByteArray.size_extract] at hc29_); (try simp only [ByteArray.size_append, ByteArray.size_extract] at hc30_); (try simp only [ByteArray.size_append, ByteArray.size_extract] at hc33_); (try simp only [ByteArray.size_append, ByteArray.size_extract] at hc34_); (try simp only [ByteArray.size_append, ByteArray.size_extract] at hc35_); omega)]; try with_reducible rfl)
                                        rotate_left
                                        · simp only [Act.put, List.setIfInBounds_toArray, List.set_cons_zero, List.set_cons_succ, i64_w, i32_w]
                                          rfl
                                        refine pure_ (i := 16) (N := some 84) (v := ?_) (a' := ?_) #[true, true, true, true, true, true, true, true, true, true, true, true, true, true, true, true, true, false, false, false, false, false] rfl rfl (any_of HT_.out (by kernel_rfl)) (fun _ _ _ h => h) (Or.inl ⟨by rfl, ?_⟩) ?_ ?_
                                        rotate_left
                                        · intro w'
                                          go_simp
                                          first | with_reducible rfl | (rw [if_neg (by have h1_ : (⟨#[10]⟩ : ByteArray).size = 1 := rfl; (try have hc26_ := of_decide_eq_true c26b1); (try have hc27_ := of_decide_eq_true c27b1); (try have hc28_ := of_decide_eq_true c28b1); (try have hc29_ := of_decide_eq_true c29b1); (try have hc30_ := of_decide_eq_true c30b1); (try have hc33_ := of_decide_eq_true c33b1); (try have hc34_ := of_decide_eq_true c34b1); (try have hc35_ := of_decide_eq_true c35b1); (try simp only [ByteArray.size_append, ByteArray.size_extract] at hc26_); (try simp only [ByteArray.size_append, ByteArray.size_extract] at hc27_); (try simp only [ByteArray.size_append, ByteArray.size_extract] at hc28_); (try simp only [ByteArray.size_append, ByteArray.size_extract] at hc29_); (try simp only [ByteArray.size_append, ByteArray.size_extract] at hc30_); (try simp only [ByteArray.size_append, ByteArray.size_extract] at hc33_); (try simp only [ByteArray.size_append, ByteArray.size_extract] at hc34_); (try simp only [ByteArray.size_append, ByteArray.size_extract] at hc35_); omega)]; try with_reducible rfl)
                                        rotate_left
                                        · simp only [Act.put, List.setIfInBounds_toArray, List.set_cons_zero, List.set_cons_succ, i64_w, i32_w]
                                          rfl
                                        refine pure_ (i := 17) (N := some 85) (v := ?_) (a' := ?_) #[true, true, true, true, true, true, true, true, true, true, true, true, true, true, true, true, true, true, false, false, false, false] rfl rfl (any_of HT_.out (by kernel_rfl)) (fun _ _ _ h => h) (Or.inl ⟨by rfl, ?_⟩) ?_ ?_
                                        rotate_left
                                        · intro w'
                                          go_simp
                                          first | with_reducible rfl | (rw [if_neg (by have h1_ : (⟨#[10]⟩ : ByteArray).size = 1 := rfl; (try have hc26_ := of_decide_eq_true c26b1); (try have hc27_ := of_decide_eq_true c27b1); (try have hc28_ := of_decide_eq_true c28b1); (try have hc29_ := of_decide_eq_true c29b1); (try have hc30_ := of_decide_eq_true c30b1); (try have hc33_ := of_decide_eq_true c33b1); (try have hc34_ := of_decide_eq_true c34b1); (try have hc35_ := of_decide_eq_true c35b1); (try simp only [ByteArray.size_append, ByteArray.size_extract] at hc26_); (try simp only [ByteArray.size_append, ByteArray.size_extract] at hc27_); (try simp only [ByteArray.size_append, ByteArray.size_extract] at hc28_); (try simp only [ByteArray.size_append, ByteArray.size_extract] at hc29_); (try simp only [ByteArray.size_append, ByteArray.size_extract] at hc30_); (try simp only [ByteArray.size_append, ByteArray.size_extract] at hc33_); (try simp only [ByteArray.size_append, ByteArray.size_extract] at hc34_); (try simp only [ByteArray.size_append, ByteArray.size_extract] at hc35_); omega)]; try with_reducible rfl)
                                        rotate_left
                                        · simp only [Act.put, List.setIfInBounds_toArray, List.set_cons_zero, List.set_cons_succ, i64_w, i32_w]
                                          rfl
                                        refine pure_ (i := 18) (N := some 86) (v := ?_) (a' := ?_) #[true, true, true, true, true, true, true, true, true, true, true, true, true, true, true, true, true, true, true, false, false, false] rfl rfl (any_of HT_.out (by kernel_rfl)) (fun _ _ _ h => h) (Or.inl ⟨by rfl, ?_⟩) ?_ ?_
                                        rotate_left
                                        · intro w'
                                          go_simp
                                          first | with_reducible rfl | (rw [if_neg (by have h1_ : (⟨#[10]⟩ : ByteArray).size = 1 := rfl; (try have hc26_ := of_decide_eq_true c26b1); (try have hc27_ := of_decide_eq_true c27b1); (try have hc28_ := of_decide_eq_true c28b1); (try have hc29_ := of_decide_eq_true c29b1); (try have hc30_ := of_decide_eq_true c30b1); (try have hc33_ := of_decide_eq_true c33b1); (try have hc34_ := of_decide_eq_true c34b1); (try have hc35_ := of_decide_eq_true c35b1); (try simp only [ByteArray.size_append, ByteArray.size_extract] at hc26_); (try simp only [ByteArray.size_append, ByteArray.size_extract] at hc27_); (try simp only [ByteArray.size_append, ByteArray.size_extract] at hc28_); (try simp only [ByteArray.size_append, ByteArray.size_extract] at hc29_); (try simp only [ByteArray.size_append, ByteArray.size_extract] at hc30_); (try simp only [ByteArray.size_append, ByteArray.size_extract] at hc33_); (try simp only [ByteArray.size_append, ByteArray.size_extract] at hc34_); (try simp only [ByteArray.size_append, ByteArray.size_extract] at hc35_); omega)]; try with_reducible rfl)
                                        rotate_left
                                        · simp only [Act.put, List.setIfInBounds_toArray, List.set_cons_zero, List.set_cons_succ, i64_w, i32_w]
                                          rfl
                                        refine pure_ (i := 19) (N := some 14) (v := ?_) (a' := ?_) #[true, true, true, true, true, true, true, true, true, true, true, true, true, true, true, true, true, true, true, true, false, false] rfl rfl (any_of HT_.out (by kernel_rfl)) (fun _ _ _ h => h) (Or.inl ⟨by rfl, ?_⟩) ?_ ?_
                                        rotate_left
                                        · intro w'
                                          go_simp
                                          first | with_reducible rfl | (rw [if_neg (by have h1_ : (⟨#[10]⟩ : ByteArray).size = 1 := rfl; (try have hc26_ := of_decide_eq_true c26b1); (try have hc27_ := of_decide_eq_true c27b1); (try have hc28_ := of_decide_eq_true c28b1); (try have hc29_ := of_decide_eq_true c29b1); (try have hc30_ := of_decide_eq_true c30b1); (try have hc33_ := of_decide_eq_true c33b1); (try have hc34_ := of_decide_eq_true c34b1); (try have hc35_ := of_decide_eq_true c35b1); (try simp only [ByteArray.size_append, ByteArray.size_extract] at hc26_); (try simp only [ByteArray.size_append, ByteArray.size_extract] at hc27_); (try simp only [ByteArray.size_append, ByteArray.size_extract] at hc28_); (try simp only [ByteArray.size_append, ByteArray.size_extract] at hc29_); (try simp only [ByteArray.size_append, ByteArray.size_extract] at hc30_); (try simp only [ByteArray.size_append, ByteArray.size_extract] at hc33_); (try simp only [ByteArray.size_append, ByteArray.size_extract] at hc34_); (try simp only [ByteArray.size_append, ByteArray.size_extract] at hc35_); omega)]; try with_reducible rfl)
                                        rotate_left
                                        · simp only [Act.put, List.setIfInBounds_toArray, List.set_cons_zero, List.set_cons_succ, i64_w, i32_w]
                                          rfl
                                        refine pure_ (i := 20) (N := some 15) (v := ?_) (a' := ?_) #[true, true, true, true, true, true, true, true, true, true, true, true, true, true, true, true, true, true, true, true, true, false] rfl rfl (any_of HT_.out (by kernel_rfl)) (fun _ _ _ h => h) (Or.inl ⟨by rfl, ?_⟩) ?_ ?_
                                        rotate_left
                                        · intro w'
                                          go_simp
                                          first | with_reducible rfl | (rw [if_neg (by have h1_ : (⟨#[10]⟩ : ByteArray).size = 1 := rfl; (try have hc26_ := of_decide_eq_true c26b1); (try have hc27_ := of_decide_eq_true c27b1); (try have hc28_ := of_decide_eq_true c28b1); (try have hc29_ := of_decide_eq_true c29b1); (try have hc30_ := of_decide_eq_true c30b1); (try have hc33_ := of_decide_eq_true c33b1); (try have hc34_ := of_decide_eq_true c34b1); (try have hc35_ := of_decide_eq_true c35b1); (try simp only [ByteArray.size_append, ByteArray.size_extract] at hc26_); (try simp only [ByteArray.size_append, ByteArray.size_extract] at hc27_); (try simp only [ByteArray.size_append, ByteArray.size_extract] at hc28_); (try simp only [ByteArray.size_append, ByteArray.size_extract] at hc29_); (try simp only [ByteArray.size_append, ByteArray.size_extract] at hc30_); (try simp only [ByteArray.size_append, ByteArray.size_extract] at hc33_); (try simp only [ByteArray.size_append, ByteArray.size_extract] at hc34_); (try simp only [ByteArray.size_append, ByteArray.size_extract] at hc35_); omega)]; try with_reducible rfl)
                                        rotate_left
                                        · simp only [Act.put, List.setIfInBounds_toArray, List.set_cons_zero, List.set_cons_succ, i64_w, i32_w]
                                          rfl
                                        refine pure_ (i := 21) (N := some 16) (v := ?_) (a' := ?_) #[true, true, true, true, true, true, true, true, true, true, true, true, true, true, true, true, true, true, true, true, true, true] rfl rfl (any_of HT_.out (by kernel_rfl)) (fun _ _ _ h => h) (Or.inl ⟨by rfl, ?_⟩) ?_ ?_
                                        rotate_left
                                        · intro w'
                                          go_simp
                                          first | with_reducible rfl | (rw [if_neg (by have h1_ : (⟨#[10]⟩ : ByteArray).size = 1 := rfl; (try have hc26_ := of_decide_eq_true c26b1); (try have hc27_ := of_decide_eq_true c27b1); (try have hc28_ := of_decide_eq_true c28b1); (try have hc29_ := of_decide_eq_true c29b1); (try have hc30_ := of_decide_eq_true c30b1); (try have hc33_ := of_decide_eq_true c33b1); (try have hc34_ := of_decide_eq_true c34b1); (try have hc35_ := of_decide_eq_true c35b1); (try simp only [ByteArray.size_append, ByteArray.size_extract] at hc26_); (try simp only [ByteArray.size_append, ByteArray.size_extract] at hc27_); (try simp only [ByteArray.size_append, ByteArray.size_extract] at hc28_); (try simp only [ByteArray.size_append, ByteArray.size_extract] at hc29_); (try simp only [ByteArray.size_append, ByteArray.size_extract] at hc30_); (try simp only [ByteArray.size_append, ByteArray.size_extract] at hc33_); (try simp only [ByteArray.size_append, ByteArray.size_extract] at hc34_); (try simp only [ByteArray.size_append, ByteArray.size_extract] at hc35_); omega)]; try with_reducible rfl)
                                        rotate_left
                                        · simp only [Act.put, List.setIfInBounds_toArray, List.set_cons_zero, List.set_cons_succ, i64_w, i32_w]
                                          rfl
                                        refine done_ (done_of HT_.out (by kernel_rfl)) ?_
                                        try go_wp2
                                        go_ret
                                        exact ⟨by first | rfl | (simp [errW_none, errW_some] <;> rfl) | (simp [*, errW_none, errW_some] <;> rfl), by repeat (first | (with_reducible first | exact HB.out | apply below_alloc | apply pw_below_drewN | apply below_drew1) | exact HB.out)⟩
                                    · replace c37 := Bool.eq_false_iff.mpr c37
                                      subst c37
                                      have H1 : (some false) = some r := by rw [if_neg (show ¬ (false = true) by decide)] at H; exact H
                                      clear H
                                      have H := H1
                                      clear H1
                                      obtain rfl := Option.some.inj H
                                      try go_wp2
                                      have n0_ := Aside0.mk (Kd.R_drew HO_8.out)
                                      have n1_ := Aside0.mk (below_drew1 HB.out)
                                      clear HO_8
                                      clear HB
                                      have HO_8 := n0_
                                      have HB := n1_
                                      clear n0_ n1_
                                      refine start_ (n := 22) (S := fun w' => True) (ds := []) #[false, false, false, false, false, false, false, false, false, false, false, false, false, false, false, false, false, false, false, false, false, false] (by kernel_rfl) rfl rfl trivial (fun hHeld => ?_); refine with_tabW pandectlaw05_LexerGaps.tab14 pandectlaw05_LexerGaps.bits14 (fun HT_ HW_ => ?_)
                                      generalize wc.drew = w45 at HO_8 HB hHeld ⊢
                                      refine pure_ (i := 0) (N := some 69) (v := ?_) (a' := ?_) #[true, false, false, false, false, false, false, false, false, false, false, false, false, false, false, false, false, false, false, false, false, false] rfl rfl (any_of HT_.out (by kernel_rfl)) (fun _ _ _ h => h) (Or.inl ⟨by rfl, ?_⟩) ?_ ?_
                                      rotate_left
                                      · intro w'
                                        go_simp
                                        first | with_reducible rfl | (rw [if_neg (by have h1_ : (⟨#[10]⟩ : ByteArray).size = 1 := rfl; (try have hc26_ := of_decide_eq_true c26b1); (try have hc27_ := of_decide_eq_true c27b1); (try have hc28_ := of_decide_eq_true c28b1); (try have hc29_ := of_decide_eq_true c29b1); (try have hc30_ := of_decide_eq_true c30b1); (try have hc33_ := of_decide_eq_true c33b1); (try have hc34_ := of_decide_eq_true c34b1); (try have hc35_ := of_decide_eq_true c35b1); (try simp only [ByteArray.size_append, ByteArray.size_extract] at hc26_); (try simp only [ByteArray.size_append, ByteArray.size_extract] at hc27_); (try simp only [ByteArray.size_append, ByteArray.size_extract] at hc28_); (try simp only [ByteArray.size_append, ByteArray.size_extract] at hc29_); (try simp only [ByteArray.size_append, ByteArray.size_extract] at hc30_); (try simp only [ByteArray.size_append, ByteArray.size_extract] at hc33_); (try simp only [ByteArray.size_append, ByteArray.size_extract] at hc34_); (try simp only [ByteArray.size_append, ByteArray.size_extract] at hc35_); omega)]; try with_reducible rfl)
                                      rotate_left
                                      · simp only [Act.put, List.setIfInBounds_toArray, List.set_cons_zero, List.set_cons_succ, i64_w, i32_w]
                                        rfl
                                      refine pure_ (i := 1) (N := some 70) (v := ?_) (a' := ?_) #[true, true, false, false, false, false, false, false, false, false, false, false, false, false, false, false, false, false, false, false, false, false] rfl rfl (any_of HT_.out (by kernel_rfl)) (fun _ _ _ h => h) (Or.inl ⟨by rfl, ?_⟩) ?_ ?_
                                      rotate_left
                                      · intro w'
                                        go_simp
                                        first | with_reducible rfl | (rw [if_neg (by have h1_ : (⟨#[10]⟩ : ByteArray).size = 1 := rfl; (try have hc26_ := of_decide_eq_true c26b1); (try have hc27_ := of_decide_eq_true c27b1); (try have hc28_ := of_decide_eq_true c28b1); (try have hc29_ := of_decide_eq_true c29b1); (try have hc30_ := of_decide_eq_true c30b1); (try have hc33_ := of_decide_eq_true c33b1); (try have hc34_ := of_decide_eq_true c34b1); (try have hc35_ := of_decide_eq_true c35b1); (try simp only [ByteArray.size_append, ByteArray.size_extract] at hc26_); (try simp only [ByteArray.size_append, ByteArray.size_extract] at hc27_); (try simp only [ByteArray.size_append, ByteArray.size_extract] at hc28_); (try simp only [ByteArray.size_append, ByteArray.size_extract] at hc29_); (try simp only [ByteArray.size_append, ByteArray.size_extract] at hc30_); (try simp only [ByteArray.size_append, ByteArray.size_extract] at hc33_); (try simp only [ByteArray.size_append, ByteArray.size_extract] at hc34_); (try simp only [ByteArray.size_append, ByteArray.size_extract] at hc35_); omega)]; try with_reducible rfl)
                                      rotate_left
                                      · simp only [Act.put, List.setIfInBounds_toArray, List.set_cons_zero, List.set_cons_succ, i64_w, i32_w]
                                        rfl
                                      refine pure_ (i := 2) (N := some 71) (v := ?_) (a' := ?_) #[true, true, true, false, false, false, false, false, false, false, false, false, false, false, false, false, false, false, false, false, false, false] rfl rfl (any_of HT_.out (by kernel_rfl)) (fun _ _ _ h => h) (Or.inl ⟨by rfl, ?_⟩) ?_ ?_
                                      rotate_left
                                      · intro w'
                                        go_simp
                                        first | with_reducible rfl | (rw [if_neg (by have h1_ : (⟨#[10]⟩ : ByteArray).size = 1 := rfl; (try have hc26_ := of_decide_eq_true c26b1); (try have hc27_ := of_decide_eq_true c27b1); (try have hc28_ := of_decide_eq_true c28b1); (try have hc29_ := of_decide_eq_true c29b1); (try have hc30_ := of_decide_eq_true c30b1); (try have hc33_ := of_decide_eq_true c33b1); (try have hc34_ := of_decide_eq_true c34b1); (try have hc35_ := of_decide_eq_true c35b1); (try simp only [ByteArray.size_append, ByteArray.size_extract] at hc26_); (try simp only [ByteArray.size_append, ByteArray.size_extract] at hc27_); (try simp only [ByteArray.size_append, ByteArray.size_extract] at hc28_); (try simp only [ByteArray.size_append, ByteArray.size_extract] at hc29_); (try simp only [ByteArray.size_append, ByteArray.size_extract] at hc30_); (try simp only [ByteArray.size_append, ByteArray.size_extract] at hc33_); (try simp only [ByteArray.size_append, ByteArray.size_extract] at hc34_); (try simp only [ByteArray.size_append, ByteArray.size_extract] at hc35_); omega)]; try with_reducible rfl)
                                      rotate_left
                                      · simp only [Act.put, List.setIfInBounds_toArray, List.set_cons_zero, List.set_cons_succ, i64_w, i32_w]
                                        rfl
                                      refine pure_ (i := 3) (N := some 72) (v := ?_) (a' := ?_) #[true, true, true, true, false, false, false, false, false, false, false, false, false, false, false, false, false, false, false, false, false, false] rfl rfl (any_of HT_.out (by kernel_rfl)) (fun _ _ _ h => h) (Or.inl ⟨by rfl, ?_⟩) ?_ ?_
                                      rotate_left
                                      · intro w'
                                        go_simp
                                        first | with_reducible rfl | (rw [if_neg (by have h1_ : (⟨#[10]⟩ : ByteArray).size = 1 := rfl; (try have hc26_ := of_decide_eq_true c26b1); (try have hc27_ := of_decide_eq_true c27b1); (try have hc28_ := of_decide_eq_true c28b1); (try have hc29_ := of_decide_eq_true c29b1); (try have hc30_ := of_decide_eq_true c30b1); (try have hc33_ := of_decide_eq_true c33b1); (try have hc34_ := of_decide_eq_true c34b1); (try have hc35_ := of_decide_eq_true c35b1); (try simp only [ByteArray.size_append, ByteArray.size_extract] at hc26_); (try simp only [ByteArray.size_append, ByteArray.size_extract] at hc27_); (try simp only [ByteArray.size_append, ByteArray.size_extract] at hc28_); (try simp only [ByteArray.size_append, ByteArray.size_extract] at hc29_); (try simp only [ByteArray.size_append, ByteArray.size_extract] at hc30_); (try simp only [ByteArray.size_append, ByteArray.size_extract] at hc33_); (try simp only [ByteArray.size_append, ByteArray.size_extract] at hc34_); (try simp only [ByteArray.size_append, ByteArray.size_extract] at hc35_); omega)]; try with_reducible rfl)
                                      rotate_left
                                      · simp only [Act.put, List.setIfInBounds_toArray, List.set_cons_zero, List.set_cons_succ, i64_w, i32_w]
                                        rfl
                                      refine pure_ (i := 4) (N := some 73) (v := ?_) (a' := ?_) #[true, true, true, true, true, false, false, false, false, false, false, false, false, false, false, false, false, false, false, false, false, false] rfl rfl (any_of HT_.out (by kernel_rfl)) (fun _ _ _ h => h) (Or.inl ⟨by rfl, ?_⟩) ?_ ?_
                                      rotate_left
                                      · intro w'
                                        go_simp
                                        first | with_reducible rfl | (rw [if_neg (by have h1_ : (⟨#[10]⟩ : ByteArray).size = 1 := rfl; (try have hc26_ := of_decide_eq_true c26b1); (try have hc27_ := of_decide_eq_true c27b1); (try have hc28_ := of_decide_eq_true c28b1); (try have hc29_ := of_decide_eq_true c29b1); (try have hc30_ := of_decide_eq_true c30b1); (try have hc33_ := of_decide_eq_true c33b1); (try have hc34_ := of_decide_eq_true c34b1); (try have hc35_ := of_decide_eq_true c35b1); (try simp only [ByteArray.size_append, ByteArray.size_extract] at hc26_); (try simp only [ByteArray.size_append, ByteArray.size_extract] at hc27_); (try simp only [ByteArray.size_append, ByteArray.size_extract] at hc28_); (try simp only [ByteArray.size_append, ByteArray.size_extract] at hc29_); (try simp only [ByteArray.size_append, ByteArray.size_extract] at hc30_); (try simp only [ByteArray.size_append, ByteArray.size_extract] at hc33_); (try simp only [ByteArray.size_append, ByteArray.size_extract] at hc34_); (try simp only [ByteArray.size_append, ByteArray.size_extract] at hc35_); omega)]; try with_reducible rfl)
                                      rotate_left
                                      · simp only [Act.put, List.setIfInBounds_toArray, List.set_cons_zero, List.set_cons_succ, i64_w, i32_w]
                                        rfl
                                      refine pure_ (i := 5) (N := some 74) (v := ?_) (a' := ?_) #[true, true, true, true, true, true, false, false, false, false, false, false, false, false, false, false, false, false, false, false, false, false] rfl rfl (any_of HT_.out (by kernel_rfl)) (fun _ _ _ h => h) (Or.inl ⟨by rfl, ?_⟩) ?_ ?_
                                      rotate_left
                                      · intro w'
                                        go_simp
                                        first | with_reducible rfl | (rw [if_neg (by have h1_ : (⟨#[10]⟩ : ByteArray).size = 1 := rfl; (try have hc26_ := of_decide_eq_true c26b1); (try have hc27_ := of_decide_eq_true c27b1); (try have hc28_ := of_decide_eq_true c28b1); (try have hc29_ := of_decide_eq_true c29b1); (try have hc30_ := of_decide_eq_true c30b1); (try have hc33_ := of_decide_eq_true c33b1); (try have hc34_ := of_decide_eq_true c34b1); (try have hc35_ := of_decide_eq_true c35b1); (try simp only [ByteArray.size_append, ByteArray.size_extract] at hc26_); (try simp only [ByteArray.size_append, ByteArray.size_extract] at hc27_); (try simp only [ByteArray.size_append, ByteArray.size_extract] at hc28_); (try simp only [ByteArray.size_append, ByteArray.size_extract] at hc29_); (try simp only [ByteArray.size_append, ByteArray.size_extract] at hc30_); (try simp only [ByteArray.size_append, ByteArray.size_extract] at hc33_); (try simp only [ByteArray.size_append, ByteArray.size_extract] at hc34_); (try simp only [ByteArray.size_append, ByteArray.size_extract] at hc35_); omega)]; try with_reducible rfl)
                                      rotate_left
                                      · simp only [Act.put, List.setIfInBounds_toArray, List.set_cons_zero, List.set_cons_succ, i64_w, i32_w]
                                        rfl
                                      refine pure_ (i := 6) (N := some 75) (v := ?_) (a' := ?_) #[true, true, true, true, true, true, true, false, false, false, false, false, false, false, false, false, false, false, false, false, false, false] rfl rfl (any_of HT_.out (by kernel_rfl)) (fun _ _ _ h => h) (Or.inl ⟨by rfl, ?_⟩) ?_ ?_
                                      rotate_left
                                      · intro w'
                                        go_simp
                                        first | with_reducible rfl | (rw [if_neg (by have h1_ : (⟨#[10]⟩ : ByteArray).size = 1 := rfl; (try have hc26_ := of_decide_eq_true c26b1); (try have hc27_ := of_decide_eq_true c27b1); (try have hc28_ := of_decide_eq_true c28b1); (try have hc29_ := of_decide_eq_true c29b1); (try have hc30_ := of_decide_eq_true c30b1); (try have hc33_ := of_decide_eq_true c33b1); (try have hc34_ := of_decide_eq_true c34b1); (try have hc35_ := of_decide_eq_true c35b1); (try simp only [ByteArray.size_append, ByteArray.size_extract] at hc26_); (try simp only [ByteArray.size_append, ByteArray.size_extract] at hc27_); (try simp only [ByteArray.size_append, ByteArray.size_extract] at hc28_); (try simp only [ByteArray.size_append, ByteArray.size_extract] at hc29_); (try simp only [ByteArray.size_append, ByteArray.size_extract] at hc30_); (try simp only [ByteArray.size_append, ByteArray.size_extract] at hc33_); (try simp only [ByteArray.size_append, ByteArray.size_extract] at hc34_); (try simp only [ByteArray.size_append, ByteArray.size_extract] at hc35_); omega)]; try with_reducible rfl)
                                      rotate_left
                                      · simp only [Act.put, List.setIfInBounds_toArray, List.set_cons_zero, List.set_cons_succ, i64_w, i32_w]
                                        rfl
                                      refine pure_ (i := 7) (N := some 76) (v := ?_) (a' := ?_) #[true, true, true, true, true, true, true, true, false, false, false, false, false, false, false, false, false, false, false, false, false, false] rfl rfl (any_of HT_.out (by kernel_rfl)) (fun _ _ _ h => h) (Or.inl ⟨by rfl, ?_⟩) ?_ ?_
                                      rotate_left
                                      · intro w'
                                        go_simp
                                        first | with_reducible rfl | (rw [if_neg (by have h1_ : (⟨#[10]⟩ : ByteArray).size = 1 := rfl; (try have hc26_ := of_decide_eq_true c26b1); (try have hc27_ := of_decide_eq_true c27b1); (try have hc28_ := of_decide_eq_true c28b1); (try have hc29_ := of_decide_eq_true c29b1); (try have hc30_ := of_decide_eq_true c30b1); (try have hc33_ := of_decide_eq_true c33b1); (try have hc34_ := of_decide_eq_true c34b1); (try have hc35_ := of_decide_eq_true c35b1); (try simp only [ByteArray.size_append, ByteArray.size_extract] at hc26_); (try simp only [ByteArray.size_append, ByteArray.size_extract] at hc27_); (try simp only [ByteArray.size_append, ByteArray.size_extract] at hc28_); (try simp only [ByteArray.size_append, ByteArray.size_extract] at hc29_); (try simp only [ByteArray.size_append, ByteArray.size_extract] at hc30_); (try simp only [ByteArray.size_append, ByteArray.size_extract] at hc33_); (try simp only [ByteArray.size_append, ByteArray.size_extract] at hc34_); (try simp only [ByteArray.size_append, ByteArray.size_extract] at hc35_); omega)]; try with_reducible rfl)
                                      rotate_left
                                      · simp only [Act.put, List.setIfInBounds_toArray, List.set_cons_zero, List.set_cons_succ, i64_w, i32_w]
                                        rfl
                                      refine pure_ (i := 8) (N := some 77) (v := ?_) (a' := ?_) #[true, true, true, true, true, true, true, true, true, false, false, false, false, false, false, false, false, false, false, false, false, false] rfl rfl (any_of HT_.out (by kernel_rfl)) (fun _ _ _ h => h) (Or.inl ⟨by rfl, ?_⟩) ?_ ?_
                                      rotate_left
                                      · intro w'
                                        go_simp
                                        first | with_reducible rfl | (rw [if_neg (by have h1_ : (⟨#[10]⟩ : ByteArray).size = 1 := rfl; (try have hc26_ := of_decide_eq_true c26b1); (try have hc27_ := of_decide_eq_true c27b1); (try have hc28_ := of_decide_eq_true c28b1); (try have hc29_ := of_decide_eq_true c29b1); (try have hc30_ := of_decide_eq_true c30b1); (try have hc33_ := of_decide_eq_true c33b1); (try have hc34_ := of_decide_eq_true c34b1); (try have hc35_ := of_decide_eq_true c35b1); (try simp only [ByteArray.size_append, ByteArray.size_extract] at hc26_); (try simp only [ByteArray.size_append, ByteArray.size_extract] at hc27_); (try simp only [ByteArray.size_append, ByteArray.size_extract] at hc28_); (try simp only [ByteArray.size_append, ByteArray.size_extract] at hc29_); (try simp only [ByteArray.size_append, ByteArray.size_extract] at hc30_); (try simp only [ByteArray.size_append, ByteArray.size_extract] at hc33_); (try simp only [ByteArray.size_append, ByteArray.size_extract] at hc34_); (try simp only [ByteArray.size_append, ByteArray.size_extract] at hc35_); omega)]; try with_reducible rfl)
                                      rotate_left
                                      · simp only [Act.put, List.setIfInBounds_toArray, List.set_cons_zero, List.set_cons_succ, i64_w, i32_w]
                                        rfl
                                      refine pure_ (i := 9) (N := some 78) (v := ?_) (a' := ?_) #[true, true, true, true, true, true, true, true, true, true, false, false, false, false, false, false, false, false, false, false, false, false] rfl rfl (any_of HT_.out (by kernel_rfl)) (fun _ _ _ h => h) (Or.inl ⟨by rfl, ?_⟩) ?_ ?_
                                      rotate_left
                                      · intro w'
                                        go_simp
                                        first | with_reducible rfl | (rw [if_neg (by have h1_ : (⟨#[10]⟩ : ByteArray).size = 1 := rfl; (try have hc26_ := of_decide_eq_true c26b1); (try have hc27_ := of_decide_eq_true c27b1); (try have hc28_ := of_decide_eq_true c28b1); (try have hc29_ := of_decide_eq_true c29b1); (try have hc30_ := of_decide_eq_true c30b1); (try have hc33_ := of_decide_eq_true c33b1); (try have hc34_ := of_decide_eq_true c34b1); (try have hc35_ := of_decide_eq_true c35b1); (try simp only [ByteArray.size_append, ByteArray.size_extract] at hc26_); (try simp only [ByteArray.size_append, ByteArray.size_extract] at hc27_); (try simp only [ByteArray.size_append, ByteArray.size_extract] at hc28_); (try simp only [ByteArray.size_append, ByteArray.size_extract] at hc29_); (try simp only [ByteArray.size_append, ByteArray.size_extract] at hc30_); (try simp only [ByteArray.size_append, ByteArray.size_extract] at hc33_); (try simp only [ByteArray.size_append, ByteArray.size_extract] at hc34_); (try simp only [ByteArray.size_append, ByteArray.size_extract] at hc35_); omega)]; try with_reducible rfl)
                                      rotate_left
                                      · simp only [Act.put, List.setIfInBounds_toArray, List.set_cons_zero, List.set_cons_succ, i64_w, i32_w]
                                        rfl
                                      refine pure_ (i := 10) (N := some 79) (v := ?_) (a' := ?_) #[true, true, true, true, true, true, true, true, true, true, true, false, false, false, false, false, false, false, false, false, false, false] rfl rfl (any_of HT_.out (by kernel_rfl)) (fun _ _ _ h => h) (Or.inl ⟨by rfl, ?_⟩) ?_ ?_
                                      rotate_left
                                      · intro w'
                                        go_simp
                                        first | with_reducible rfl | (rw [if_neg (by have h1_ : (⟨#[10]⟩ : ByteArray).size = 1 := rfl; (try have hc26_ := of_decide_eq_true c26b1); (try have hc27_ := of_decide_eq_true c27b1); (try have hc28_ := of_decide_eq_true c28b1); (try have hc29_ := of_decide_eq_true c29b1); (try have hc30_ := of_decide_eq_true c30b1); (try have hc33_ := of_decide_eq_true c33b1); (try have hc34_ := of_decide_eq_true c34b1); (try have hc35_ := of_decide_eq_true c35b1); (try simp only [ByteArray.size_append, ByteArray.size_extract] at hc26_); (try simp only [ByteArray.size_append, ByteArray.size_extract] at hc27_); (try simp only [ByteArray.size_append, ByteArray.size_extract] at hc28_); (try simp only [ByteArray.size_append, ByteArray.size_extract] at hc29_); (try simp only [ByteArray.size_append, ByteArray.size_extract] at hc30_); (try simp only [ByteArray.size_append, ByteArray.size_extract] at hc33_); (try simp only [ByteArray.size_append, ByteArray.size_extract] at hc34_); (try simp only [ByteArray.size_append, ByteArray.size_extract] at hc35_); omega)]; try with_reducible rfl)
                                      rotate_left
                                      · simp only [Act.put, List.setIfInBounds_toArray, List.set_cons_zero, List.set_cons_succ, i64_w, i32_w]
                                        rfl
                                      refine pure_ (i := 11) (N := some 80) (v := ?_) (a' := ?_) #[true, true, true, true, true, true, true, true, true, true, true, true, false, false, false, false, false, false, false, false, false, false] rfl rfl (any_of HT_.out (by kernel_rfl)) (fun _ _ _ h => h) (Or.inl ⟨by rfl, ?_⟩) ?_ ?_
                                      rotate_left
                                      · intro w'
                                        go_simp
                                        first | with_reducible rfl | (rw [if_neg (by have h1_ : (⟨#[10]⟩ : ByteArray).size = 1 := rfl; (try have hc26_ := of_decide_eq_true c26b1); (try have hc27_ := of_decide_eq_true c27b1); (try have hc28_ := of_decide_eq_true c28b1); (try have hc29_ := of_decide_eq_true c29b1); (try have hc30_ := of_decide_eq_true c30b1); (try have hc33_ := of_decide_eq_true c33b1); (try have hc34_ := of_decide_eq_true c34b1); (try have hc35_ := of_decide_eq_true c35b1); (try simp only [ByteArray.size_append, ByteArray.size_extract] at hc26_); (try simp only [ByteArray.size_append, ByteArray.size_extract] at hc27_); (try simp only [ByteArray.size_append, ByteArray.size_extract] at hc28_); (try simp only [ByteArray.size_append, ByteArray.size_extract] at hc29_); (try simp only [ByteArray.size_append, ByteArray.size_extract] at hc30_); (try simp only [ByteArray.size_append, ByteArray.size_extract] at hc33_); (try simp only [ByteArray.size_append, ByteArray.size_extract] at hc34_); (try simp only [ByteArray.size_append, ByteArray.size_extract] at hc35_); omega)]; try with_reducible rfl)
                                      rotate_left
                                      · simp only [Act.put, List.setIfInBounds_toArray, List.set_cons_zero, List.set_cons_succ, i64_w, i32_w]
                                        rfl
                                      refine pure_ (i := 12) (N := some 81) (v := ?_) (a' := ?_) #[true, true, true, true, true, true, true, true, true, true, true, true, true, false, false, false, false, false, false, false, false, false] rfl rfl (any_of HT_.out (by kernel_rfl)) (fun _ _ _ h => h) (Or.inl ⟨by rfl, ?_⟩) ?_ ?_
                                      rotate_left
                                      · intro w'
                                        go_simp
                                        first | with_reducible rfl | (rw [if_neg (by have h1_ : (⟨#[10]⟩ : ByteArray).size = 1 := rfl; (try have hc26_ := of_decide_eq_true c26b1); (try have hc27_ := of_decide_eq_true c27b1); (try have hc28_ := of_decide_eq_true c28b1); (try have hc29_ := of_decide_eq_true c29b1); (try have hc30_ := of_decide_eq_true c30b1); (try have hc33_ := of_decide_eq_true c33b1); (try have hc34_ := of_decide_eq_true c34b1); (try have hc35_ := of_decide_eq_true c35b1); (try simp only [ByteArray.size_append, ByteArray.size_extract] at hc26_); (try simp only [ByteArray.size_append, ByteArray.size_extract] at hc27_); (try simp only [ByteArray.size_append, ByteArray.size_extract] at hc28_); (try simp only [ByteArray.size_append, ByteArray.size_extract] at hc29_); (try simp only [ByteArray.size_append, ByteArray.size_extract] at hc30_); (try simp only [ByteArray.size_append, ByteArray.size_extract] at hc33_); (try simp only [ByteArray.size_append, ByteArray.size_extract] at hc34_); (try simp only [ByteArray.size_append, ByteArray.size_extract] at hc35_); omega)]; try with_reducible rfl)
                                      rotate_left
                                      · simp only [Act.put, List.setIfInBounds_toArray, List.set_cons_zero, List.set_cons_succ, i64_w, i32_w]
                                        rfl
                                      refine pure_ (i := 13) (N := some 82) (v := ?_) (a' := ?_) #[true, true, true, true, true, true, true, true, true, true, true, true, true, true, false, false, false, false, false, false, false, false] rfl rfl (any_of HT_.out (by kernel_rfl)) (fun _ _ _ h => h) (Or.inl ⟨by rfl, ?_⟩) ?_ ?_
                                      rotate_left
                                      · intro w'
                                        go_simp
                                        first | with_reducible rfl | (rw [if_neg (by have h1_ : (⟨#[10]⟩ : ByteArray).size = 1 := rfl; (try have hc26_ := of_decide_eq_true c26b1); (try have hc27_ := of_decide_eq_true c27b1); (try have hc28_ := of_decide_eq_true c28b1); (try have hc29_ := of_decide_eq_true c29b1); (try have hc30_ := of_decide_eq_true c30b1); (try have hc33_ := of_decide_eq_true c33b1); (try have hc34_ := of_decide_eq_true c34b1); (try have hc35_ := of_decide_eq_true c35b1); (try simp only [ByteArray.size_append, ByteArray.size_extract] at hc26_); (try simp only [ByteArray.size_append, ByteArray.size_extract] at hc27_); (try simp only [ByteArray.size_append, ByteArray.size_extract] at hc28_); (try simp only [ByteArray.size_append, ByteArray.size_extract] at hc29_); (try simp only [ByteArray.size_append, ByteArray.size_extract] at hc30_); (try simp only [ByteArray.size_append, ByteArray.size_extract] at hc33_); (try simp only [ByteArray.size_append, ByteArray.size_extract] at hc34_); (try simp only [ByteArray.size_append, ByteArray.size_extract] at hc35_); omega)]; try with_reducible rfl)
                                      rotate_left
                                      · simp only [Act.put, List.setIfInBounds_toArray, List.set_cons_zero, List.set_cons_succ, i64_w, i32_w]
                                        rfl
                                      refine one_ (i := 14) (N := some 83) #[true, true, true, true, true, true, true, true, true, true, true, true, true, true, true, false, false, false, false, false, false, false] rfl rfl (one_of HT_.out (by kernel_rfl)) (by decide) (fun K hK => ?_)
                                      refine goes_ Tryd.func12 (by kernel_rfl) rfl #[.string ((((((a1 ++ (⟨#[10]⟩ : ByteArray)) ++ (a0.extract 0 (x11_12 : Int).toNat)) ++ (a1 ++ (⟨#[10]⟩ : ByteArray))) ++ (a0.extract (x11_12 : Int).toNat a0.size)) ++ (⟨#[10]⟩ : ByteArray)) ++ a1)] (by rfl) rfl rfl (by (try simp only [List.map_toArray, List.map_cons, List.map_nil]); first | done | rfl | (simp only [List.length_drop, List.length_take]; rfl)) ?_
                                      with_reducible refine (lexer_Lex.calls ((((((a1 ++ (⟨#[10]⟩ : ByteArray)) ++ (a0.extract 0 (x11_12 : Int).toNat)) ++ (a1 ++ (⟨#[10]⟩ : ByteArray))) ++ (a0.extract (x11_12 : Int).toNat a0.size)) ++ (⟨#[10]⟩ : ByteArray)) ++ a1) t196 t197 t198 _ A36.out).mono ?_
                                      rintro e w46 ⟨v199, rfl, ho0, hb⟩
                                      refine ⟨_, rfl, ?_⟩
                                      have n0_ := Aside0.mk (Kd.R_elder' (by (with_reducible repeat (first | apply Kd.R_alloc | apply Kd.R_drewN | apply Kd.R_drew)); exact HO_8.out) (Kd.R_base ho0) hb)
                                      have n1_ := Aside0.mk (Kd.R_lower (Kd.R_new' ho0 (Kd.R_lt (by (with_reducible repeat (first | apply Kd.R_alloc | apply Kd.R_drewN | apply Kd.R_drew)); exact HO_8.out))) (below_size (by repeat (first | (with_reducible first | exact HB.out | apply below_alloc | apply pw_below_drewN | apply below_drew1) | exact HB.out))))
                                      have n2_ := Aside0.mk (below_step (by repeat (first | (with_reducible first | exact HB.out | apply below_alloc | apply pw_below_drewN | apply below_drew1) | exact HB.out)) hb)
                                      clear HO_8
                                      clear HB
                                      have HO_8 := n0_
                                      have HO200 := n1_
                                      have HB := n2_
                                      clear n0_ n1_ n2_
                                      (try clear hb)
                                      (try clear hb2)
                                      (try clear hk)
                                      (try clear hi)
                                      (try clear ho0)
                                      refine hK.out _ _ trivial (fun hHeld => ?_)
                                      clear hK K
                                      refine norm_ (a' := ?_) ?_ ?_
                                      rotate_left
                                      · show Act.put _ (some 83) _ = _
                                        simp only [Act.put, List.setIfInBounds_toArray, List.set_cons_zero, List.set_cons_succ, i64_w, i32_w]
                                        rfl
                                      refine pure_ (i := 15) (N := some 68) (v := ?_) (a' := ?_) #[true, true, true, true, true, true, true, true, true, true, true, true, true, true, true, true, false, false, false, false, false, false] rfl rfl (any_of HT_.out (by kernel_rfl)) (fun _ _ _ h => h) (Or.inl ⟨by rfl, ?_⟩) ?_ ?_
                                      rotate_left
                                      · intro w'
                                        go_simp
                                        first | with_reducible rfl | (rw [if_neg (by have h1_ : (⟨#[10]⟩ : ByteArray).size = 1 := rfl; (try have hc26_ := of_decide_eq_true c26b1); (try have hc27_ := of_decide_eq_true c27b1); (try have hc28_ := of_decide_eq_true c28b1); (try have hc29_ := of_decide_eq_true c29b1); (try have hc30_ := of_decide_eq_true c30b1); (try have hc33_ := of_decide_eq_true c33b1); (try have hc34_ := of_decide_eq_true c34b1); (try have hc35_ := of_decide_eq_true c35b1); (try simp only [ByteArray.size_append, ByteArray.size_extract] at hc26_); (try simp only [ByteArray.size_append, ByteArray.size_extract] at hc27_); (try simp only [ByteArray.size_append, ByteArray.size_extract] at hc28_); (try simp only [ByteArray.size_append, ByteArray.size_extract] at hc29_); (try simp only [ByteArray.size_append, ByteArray.size_extract] at hc30_); (try simp only [ByteArray.size_append, ByteArray.size_extract] at hc33_); (try simp only [ByteArray.size_append, ByteArray.size_extract] at hc34_); (try simp only [ByteArray.size_append, ByteArray.size_extract] at hc35_); omega)]; try with_reducible rfl)
                                      rotate_left
                                      · simp only [Act.put, List.setIfInBounds_toArray, List.set_cons_zero, List.set_cons_succ, i64_w, i32_w]
                                        rfl
                                      refine pure_ (i := 16) (N := some 84) (v := ?_) (a' := ?_) #[true, true, true, true, true, true, true, true, true, true, true, true, true, true, true, true, true, false, false, false, false, false] rfl rfl (any_of HT_.out (by kernel_rfl)) (fun _ _ _ h => h) (Or.inl ⟨by rfl, ?_⟩) ?_ ?_
                                      rotate_left
                                      · intro w'
                                        go_simp
                                        first | with_reducible rfl | (rw [if_neg (by have h1_ : (⟨#[10]⟩ : ByteArray).size = 1 := rfl; (try have hc26_ := of_decide_eq_true c26b1); (try have hc27_ := of_decide_eq_true c27b1); (try have hc28_ := of_decide_eq_true c28b1); (try have hc29_ := of_decide_eq_true c29b1); (try have hc30_ := of_decide_eq_true c30b1); (try have hc33_ := of_decide_eq_true c33b1); (try have hc34_ := of_decide_eq_true c34b1); (try have hc35_ := of_decide_eq_true c35b1); (try simp only [ByteArray.size_append, ByteArray.size_extract] at hc26_); (try simp only [ByteArray.size_append, ByteArray.size_extract] at hc27_); (try simp only [ByteArray.size_append, ByteArray.size_extract] at hc28_); (try simp only [ByteArray.size_append, ByteArray.size_extract] at hc29_); (try simp only [ByteArray.size_append, ByteArray.size_extract] at hc30_); (try simp only [ByteArray.size_append, ByteArray.size_extract] at hc33_); (try simp only [ByteArray.size_append, ByteArray.size_extract] at hc34_); (try simp only [ByteArray.size_append, ByteArray.size_extract] at hc35_); omega)]; try with_reducible rfl)
                                      rotate_left
                                      · simp only [Act.put, List.setIfInBounds_toArray, List.set_cons_zero, List.set_cons_succ, i64_w, i32_w]
                                        rfl
                                      refine pure_ (i := 17) (N := some 85) (v := ?_) (a' := ?_) #[true, true, true, true, true, true, true, true, true, true, true, true, true, true, true, true, true, true, false, false, false, false] rfl rfl (any_of HT_.out (by kernel_rfl)) (fun _ _ _ h => h) (Or.inl ⟨by rfl, ?_⟩) ?_ ?_
                                      rotate_left
                                      · intro w'
                                        go_simp
                                        first | with_reducible rfl | (rw [if_neg (by have h1_ : (⟨#[10]⟩ : ByteArray).size = 1 := rfl; (try have hc26_ := of_decide_eq_true c26b1); (try have hc27_ := of_decide_eq_true c27b1); (try have hc28_ := of_decide_eq_true c28b1); (try have hc29_ := of_decide_eq_true c29b1); (try have hc30_ := of_decide_eq_true c30b1); (try have hc33_ := of_decide_eq_true c33b1); (try have hc34_ := of_decide_eq_true c34b1); (try have hc35_ := of_decide_eq_true c35b1); (try simp only [ByteArray.size_append, ByteArray.size_extract] at hc26_); (try simp only [ByteArray.size_append, ByteArray.size_extract] at hc27_); (try simp only [ByteArray.size_append, ByteArray.size_extract] at hc28_); (try simp only [ByteArray.size_append, ByteArray.size_extract] at hc29_); (try simp only [ByteArray.size_append, ByteArray.size_extract] at hc30_); (try simp only [ByteArray.size_append, ByteArray.size_extract] at hc33_); (try simp only [ByteArray.size_append, ByteArray.size_extract] at hc34_); (try simp only [ByteArray.size_append, ByteArray.size_extract] at hc35_); omega)]; try with_reducible rfl)
                                      rotate_left
                                      · simp only [Act.put, List.setIfInBounds_toArray, List.set_cons_zero, List.set_cons_succ, i64_w, i32_w]
                                        rfl
                                      refine pure_ (i := 18) (N := some 86) (v := ?_) (a' := ?_) #[true, true, true, true, true, true, true, true, true, true, true, true, true, true, true, true, true, true, true, false, false, false] rfl rfl (any_of HT_.out (by kernel_rfl)) (fun _ _ _ h => h) (Or.inl ⟨by rfl, ?_⟩) ?_ ?_
                                      rotate_left
                                      · intro w'
                                        go_simp
                                        first | with_reducible rfl | (rw [if_neg (by have h1_ : (⟨#[10]⟩ : ByteArray).size = 1 := rfl; (try have hc26_ := of_decide_eq_true c26b1); (try have hc27_ := of_decide_eq_true c27b1); (try have hc28_ := of_decide_eq_true c28b1); (try have hc29_ := of_decide_eq_true c29b1); (try have hc30_ := of_decide_eq_true c30b1); (try have hc33_ := of_decide_eq_true c33b1); (try have hc34_ := of_decide_eq_true c34b1); (try have hc35_ := of_decide_eq_true c35b1); (try simp only [ByteArray.size_append, ByteArray.size_extract] at hc26_); (try simp only [ByteArray.size_append, ByteArray.size_extract] at hc27_); (try simp only [ByteArray.size_append, ByteArray.size_extract] at hc28_); (try simp only [ByteArray.size_append, ByteArray.size_extract] at hc29_); (try simp only [ByteArray.size_append, ByteArray.size_extract] at hc30_); (try simp only [ByteArray.size_append, ByteArray.size_extract] at hc33_); (try simp only [ByteArray.size_append, ByteArray.size_extract] at hc34_); (try simp only [ByteArray.size_append, ByteArray.size_extract] at hc35_); omega)]; try with_reducible rfl)
                                      rotate_left
                                      · simp only [Act.put, List.setIfInBounds_toArray, List.set_cons_zero, List.set_cons_succ, i64_w, i32_w]
                                        rfl
                                      refine pure_ (i := 19) (N := some 14) (v := ?_) (a' := ?_) #[true, true, true, true, true, true, true, true, true, true, true, true, true, true, true, true, true, true, true, true, false, false] rfl rfl (any_of HT_.out (by kernel_rfl)) (fun _ _ _ h => h) (Or.inl ⟨by rfl, ?_⟩) ?_ ?_
                                      rotate_left
                                      · intro w'
                                        go_simp
                                        first | with_reducible rfl | (rw [if_neg (by have h1_ : (⟨#[10]⟩ : ByteArray).size = 1 := rfl; (try have hc26_ := of_decide_eq_true c26b1); (try have hc27_ := of_decide_eq_true c27b1); (try have hc28_ := of_decide_eq_true c28b1); (try have hc29_ := of_decide_eq_true c29b1); (try have hc30_ := of_decide_eq_true c30b1); (try have hc33_ := of_decide_eq_true c33b1); (try have hc34_ := of_decide_eq_true c34b1); (try have hc35_ := of_decide_eq_true c35b1); (try simp only [ByteArray.size_append, ByteArray.size_extract] at hc26_); (try simp only [ByteArray.size_append, ByteArray.size_extract] at hc27_); (try simp only [ByteArray.size_append, ByteArray.size_extract] at hc28_); (try simp only [ByteArray.size_append, ByteArray.size_extract] at hc29_); (try simp only [ByteArray.size_append, ByteArray.size_extract] at hc30_); (try simp only [ByteArray.size_append, ByteArray.size_extract] at hc33_); (try simp only [ByteArray.size_append, ByteArray.size_extract] at hc34_); (try simp only [ByteArray.size_append, ByteArray.size_extract] at hc35_); omega)]; try with_reducible rfl)
                                      rotate_left
                                      · simp only [Act.put, List.setIfInBounds_toArray, List.set_cons_zero, List.set_cons_succ, i64_w, i32_w]
                                        rfl
                                      refine pure_ (i := 20) (N := some 15) (v := ?_) (a' := ?_) #[true, true, true, true, true, true, true, true, true, true, true, true, true, true, true, true, true, true, true, true, true, false] rfl rfl (any_of HT_.out (by kernel_rfl)) (fun _ _ _ h => h) (Or.inl ⟨by rfl, ?_⟩) ?_ ?_
                                      rotate_left
                                      · intro w'
                                        go_simp
                                        first | with_reducible rfl | (rw [if_neg (by have h1_ : (⟨#[10]⟩ : ByteArray).size = 1 := rfl; (try have hc26_ := of_decide_eq_true c26b1); (try have hc27_ := of_decide_eq_true c27b1); (try have hc28_ := of_decide_eq_true c28b1); (try have hc29_ := of_decide_eq_true c29b1); (try have hc30_ := of_decide_eq_true c30b1); (try have hc33_ := of_decide_eq_true c33b1); (try have hc34_ := of_decide_eq_true c34b1); (try have hc35_ := of_decide_eq_true c35b1); (try simp only [ByteArray.size_append, ByteArray.size_extract] at hc26_); (try simp only [ByteArray.size_append, ByteArray.size_extract] at hc27_); (try simp only [ByteArray.size_append, ByteArray.size_extract] at hc28_); (try simp only [ByteArray.size_append, ByteArray.size_extract] at hc29_); (try simp only [ByteArray.size_append, ByteArray.size_extract] at hc30_); (try simp only [ByteArray.size_append, ByteArray.size_extract] at hc33_); (try simp only [ByteArray.size_append, ByteArray.size_extract] at hc34_); (try simp only [ByteArray.size_append, ByteArray.size_extract] at hc35_); omega)]; try with_reducible rfl)
                                      rotate_left
                                      · simp only [Act.put, List.setIfInBounds_toArray, List.set_cons_zero, List.set_cons_succ, i64_w, i32_w]
                                        rfl
                                      refine pure_ (i := 21) (N := some 16) (v := ?_) (a' := ?_) #[true, true, true, true, true, true, true, true, true, true, true, true, true, true, true, true, true, true, true, true, true, true] rfl rfl (any_of HT_.out (by kernel_rfl)) (fun _ _ _ h => h) (Or.inl ⟨by rfl, ?_⟩) ?_ ?_
                                      rotate_left
                                      · intro w'
                                        go_simp
                                        first | with_reducible rfl | (rw [if_neg (by have h1_ : (⟨#[10]⟩ : ByteArray).size = 1 := rfl; (try have hc26_ := of_decide_eq_true c26b1); (try have hc27_ := of_decide_eq_true c27b1); (try have hc28_ := of_decide_eq_true c28b1); (try have hc29_ := of_decide_eq_true c29b1); (try have hc30_ := of_decide_eq_true c30b1); (try have hc33_ := of_decide_eq_true c33b1); (try have hc34_ := of_decide_eq_true c34b1); (try have hc35_ := of_decide_eq_true c35b1); (try simp only [ByteArray.size_append, ByteArray.size_extract] at hc26_); (try simp only [ByteArray.size_append, ByteArray.size_extract] at hc27_); (try simp only [ByteArray.size_append, ByteArray.size_extract] at hc28_); (try simp only [ByteArray.size_append, ByteArray.size_extract] at hc29_); (try simp only [ByteArray.size_append, ByteArray.size_extract] at hc30_); (try simp only [ByteArray.size_append, ByteArray.size_extract] at hc33_); (try simp only [ByteArray.size_append, ByteArray.size_extract] at hc34_); (try simp only [ByteArray.size_append, ByteArray.size_extract] at hc35_); omega)]; try with_reducible rfl)
                                      rotate_left
                                      · simp only [Act.put, List.setIfInBounds_toArray, List.set_cons_zero, List.set_cons_succ, i64_w, i32_w]
                                        rfl
                                      refine done_ (done_of HT_.out (by kernel_rfl)) ?_
                                      try go_wp2
                                      go_ret
                                      exact ⟨by first | rfl | (simp [errW_none, errW_some] <;> rfl) | (simp [*, errW_none, errW_some] <;> rfl), by repeat (first | (with_reducible first | exact HB.out | apply below_alloc | apply pw_below_drewN | apply below_drew1) | exact HB.out)⟩
                                  · rw [if_neg c35] at H
                                    exact absurd H (by simp)
                                · rw [if_neg c34] at H
                                  exact absurd H (by simp)
                              · rw [if_neg c33] at H
                                exact absurd H (by simp)
                            · rw [if_neg c30] at H
                              exact absurd H (by simp)
                          · rw [if_neg c29] at H
                            exact absurd H (by simp)
                        · rw [if_neg c28] at H
                          exact absurd H (by simp)
                      · rw [if_neg c27] at H
                        exact absurd H (by simp)
                    · rw [if_neg c26] at H
                      exact absurd H (by simp)
        · rw [if_neg c12] at H
          have c12b0 : (t190 == 0) = false := beq_eq_false_iff_ne.mpr c12
          have c12b1 : (t190 != 0) = true := bne_iff_ne.mpr c12
          obtain rfl := Option.some.inj H
          go_wp2_with (first | ((with_reducible refine gate_callee (f := 12) rfl ?_); refine goesL_ (some 34) rfl rfl Tryd.func12 (by kernel_rfl) rfl #[.string a0] rfl (by (try simp only [List.map_toArray, List.map_cons, List.map_nil]); first | done | rfl | (simp only [List.length_drop, List.length_take]; rfl)) ?_; (with_reducible refine (lexer_Lex.calls a0 t189 t190 t191 _ A11.out).mono ?_); rintro e w47 ⟨v192, rfl, ho0, hb⟩; refine ⟨_, rfl, ?_⟩; have n0_ := Aside0.mk (Kd.R_lower ho0 (below_size (by repeat (first | (with_reducible first | exact HB.out | apply below_alloc | apply pw_below_drewN | apply below_drew1) | exact HB.out)))); have n1_ := Aside0.mk (below_step (by repeat (first | (with_reducible first | exact HB.out | apply below_alloc | apply pw_below_drewN | apply below_drew1) | exact HB.out)) hb); clear HB; have HO193 := n0_; have HB := n1_; clear n0_ n1_; (try clear hb); (try clear hb2); (try clear hk); (try clear hi); (try clear ho0)))
          go_ret
          exact ⟨by first | rfl | (simp [errW_none, errW_some] <;> rfl) | (simp [*, errW_none, errW_some] <;> rfl), by repeat (first | (with_reducible first | exact HB.out | apply below_alloc | apply pw_below_drewN | apply below_drew1) | exact HB.out)⟩

/-- THE ONE PURE STATEMENT of pandectlaw05_LexerGaps: yours. -/
def pandectlaw05_LexerGaps.Pure : Prop := ∀ (a0 : ByteArray) (a1 : ByteArray) (a2 : Int), a0.size ≤ 140737488351232 → a1.size ≤ 140737488351232 → (Lit.int .u16 a2).wf = true → ∃ k, pandectlaw05_LexerGaps.f k a0 a1 a2 = some true
theorem pandectlaw05_LexerGaps.walk (P : pandectlaw05_LexerGaps.Pure) (a0 : ByteArray) (a1 : ByteArray) (a2 : Int) (w : World) (w0 : a0.size ≤ 140737488351232) (w1 : a1.size ≤ 140737488351232) (w2 : (Lit.int .u16 a2).wf = true) :
    Calls Tryd.prog 8 #[.string a0, .string a1, .int .u16 a2] w fun e w' => e = .returned (.bool true) ∧ Below w.heap.size w w' := by
  obtain ⟨k, h⟩ := P a0 a1 a2 w0 w1 w2
  refine (pandectlaw05_LexerGaps.calls k a0 a1 a2 true w h).mono ?_
  rintro e w' ⟨rfl, hd⟩
  exact ⟨rfl, hd⟩

end Go.Proofs.YtjcleemflenaoaaDoor.H
