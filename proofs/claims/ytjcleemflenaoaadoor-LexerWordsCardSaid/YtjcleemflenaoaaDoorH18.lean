-- Written by wip/hyb.py (a program of this session, over the kit's print) for this seat; Lean checks it.
import Derived.Test.YtjcleemflenaoaaDoorH0
import Derived.Test.YtjcleemflenaoaaDoorH1
import Derived.Test.YtjcleemflenaoaaDoorH2
import Derived.Test.YtjcleemflenaoaaDoorH16
import Derived.Test.YtjcleemflenaoaaDoorH17
import Derived.Test.YtjcleemflenaoaaDoorLexCalls
namespace Go.Proofs.YtjcleemflenaoaaDoor.H
open Go.RowKit Go.Proofs.YtjcleemflenaoaaDoorW.PrintWords Go.Proofs.YtjcleemflenaoaaDoorW.PrintLast Go.Proofs.YtjcleemflenaoaaDoorW.PrintMore
attribute [local go_sem] max2_int min2_int max_two min_two max_three min_three max_four min_four   -- for this text's walks alone
set_option linter.unusedVariables false
set_option linter.unusedSimpArgs false

attribute [local go_sem high] eqA30
/-! ### pandectlaw05_LexerWords: function 10 -/
def pandectlaw05_LexerWords.f (k : Nat) (a0 : ByteArray) (a1 : Int) (a2 : Int) : Option (Bool) := (pandectlaw05_head.f).bind fun t222 => ((pandectref05_Name.f k a0).bind fun t223 => (if t223 = true then (if 0 ≤ (Int.tmod (wrap64 (a2)) 13) then (if (Int.tmod (wrap64 (a2)) 13) ≤ (wrap64 ((Int.tmod (wrap64 (a2)) 13) + 1)) then (if (wrap64 ((Int.tmod (wrap64 (a2)) 13) + 1)) ≤ 13 then (if a0.size + ((⟨#[61, 59, 60, 62, 40, 41, 123, 125, 91, 93, 44, 46, 58]⟩ : ByteArray).extract ((Int.tmod (wrap64 (a2)) 13) : Int).toNat ((wrap64 ((Int.tmod (wrap64 (a2)) 13) + 1)) : Int).toNat).size ≤ 9223372036854775807 then ((pandectref05_Decimal.f k (wrap64 (Int.tmod a1 10000000))).bind fun t224 => (if (a0 ++ ((⟨#[61, 59, 60, 62, 40, 41, 123, 125, 91, 93, 44, 46, 58]⟩ : ByteArray).extract ((Int.tmod (wrap64 (a2)) 13) : Int).toNat ((wrap64 ((Int.tmod (wrap64 (a2)) 13) + 1)) : Int).toNat)).size + t224.size ≤ 9223372036854775807 then ((lexer_Lex.f ((a0 ++ ((⟨#[61, 59, 60, 62, 40, 41, 123, 125, 91, 93, 44, 46, 58]⟩ : ByteArray).extract ((Int.tmod (wrap64 (a2)) 13) : Int).toNat ((wrap64 ((Int.tmod (wrap64 (a2)) 13) + 1)) : Int).toNat)) ++ t224)).bind fun bt225 => (if bt225.2.1 = 0 then (if (bt225.1.length : Int) = 3 then (if t222 = true then (if 0 < (bt225.1.length : Int) then (if (((rd_T30 bt225.1 0).f0) == 1 && ((((rd_T30 bt225.1 0).f1).toList) == a0.toList && (((rd_T30 bt225.1 0).f2) == 0 && (((rd_T30 bt225.1 0).f3) == 0)))) = true then (if 1 < (bt225.1.length : Int) then (if ((rd_T30 bt225.1 1).f0) = 3 then (if ((rd_T30 bt225.1 1).f1).toList = ((⟨#[61, 59, 60, 62, 40, 41, 123, 125, 91, 93, 44, 46, 58]⟩ : ByteArray).extract ((Int.tmod (wrap64 (a2)) 13) : Int).toNat ((wrap64 ((Int.tmod (wrap64 (a2)) 13) + 1)) : Int).toNat).toList then (if 2 < (bt225.1.length : Int) then ((pandectref05_Decimal.f k (wrap64 (Int.tmod a1 10000000))).bind fun t234 => (some (((rd_T30 bt225.1 2).f0) == 2 && ((((rd_T30 bt225.1 2).f1).toList) == t234.toList && (((rd_T30 bt225.1 2).f2) == (wrap64 (Int.tmod a1 10000000)) && (((rd_T30 bt225.1 2).f3) == (wrap64 ((a0.size : Int) + 1)))))))) else (none)) else (some false)) else (some false)) else (none)) else (some false)) else (none)) else (some false)) else (some false)) else (some false))) else (none))) else (none)) else (none)) else (none)) else (none)) else (some t222)))
theorem pandectlaw05_LexerWords.mono : ∀ a0 a1 a2 k, LeO (pandectlaw05_LexerWords.f k a0 a1 a2) (pandectlaw05_LexerWords.f (k + 1) a0 a1 a2) := by
 intro a0 a1 a2 k
 unfold pandectlaw05_LexerWords.f
 repeat' first
   | (with_reducible exact pandectref05_Decimal.mono _ _)
   | (with_reducible exact pandectref05_Name.mono _ _)
   | (with_reducible exact LeO.refl _)
   | (with_reducible exact LeO.none _)
   | (with_reducible refine LeO.ite ?_ ?_)
   | (with_reducible refine LeO.bind ?_ (fun _ => ?_))
   | exact pandectref05_Decimal.mono _ _
   | exact pandectref05_Name.mono _ _
   | exact LeO.none _
   | refine LeO.ite ?_ ?_
   | refine LeO.bind ?_ (fun _ => ?_)
def pandectlaw05_LexerWords.T9 : Bool × List (List Nat × List Nat) := (true, [([], []), ([0], [0]), ([1], [1]), ([2, 1], [1, 2]), ([3, 1], [1, 3]), ([1], [1]), ([5, 1], [1, 5]), ([4, 6, 1], [1, 4, 6]), ([1, 7], [1, 7]), ([8, 1], [8]), ([9], [9]), ([10, 9], [9, 10]), ([11, 9], [9, 11]), ([12, 9], [9, 12]), ([13, 9], [9, 13]), ([9, 14], [9, 14]), ([15, 9], [15]), ([16], [16]), ([17, 16], [16, 17]), ([18, 16], [16, 18]), ([19, 16], [16, 19]), ([16], [16]), ([20, 21, 16], [16, 20, 21]), ([16, 22], [16, 22]), ([23, 16], [23]), ([24], [24]), ([25, 24], [24, 25]), ([26, 24], [24, 26]), ([24], [24]), ([28, 24, 24], [24, 28]), ([24], [24]), ([24], [24]), ([31, 24], [24, 31]), ([32, 24], [24, 32]), ([29, 30, 33, 24], [24, 29, 30, 33]), ([27, 34, 24], [24, 27, 34]), ([24, 35], [24, 35]), ([36, 29, 0, 1, 2, 3, 4, 5, 6, 7, 8, 9, 10, 11, 12, 13, 14, 15, 16, 17, 18, 19, 20, 21, 22, 23, 24, 25, 26, 27, 28, 29, 30, 31, 32, 33, 34, 35, 36], [36])])
def pandectlaw05_LexerWords.B9 : List Nat := [0, 1, 3, 7, 15, 3, 35, 127, 255, 511, 1023, 2047, 4095, 8191, 16383, 32767, 65535, 131071, 262143, 524287, 1048575, 131071, 4194303, 8388607, 16777215, 33554431, 67108863, 134217727, 33554431, 301989887, 33554431, 33554431, 2181038079, 6476005375, 16944988159, 34359738367, 68719476735, 137438953471]
theorem pandectlaw05_LexerWords.tab9 : rtab .any (opsOf Tryd.f10 9) = pandectlaw05_LexerWords.T9 := by kernel_rfl
theorem pandectlaw05_LexerWords.bits9 : waitsOk pandectlaw05_LexerWords.T9.2 pandectlaw05_LexerWords.B9 = true := by kernel_rfl
set_option maxHeartbeats 8000000 in
set_option maxRecDepth 100000 in
theorem pandectlaw05_LexerWords.calls (k : Nat) (a0 : ByteArray) (a1 : Int) (a2 : Int) (r : Bool) (w : World) (h : pandectlaw05_LexerWords.f k a0 a1 a2 = some r) :
  Calls Tryd.prog 10 #[.string a0, .int .u64 a1, .int .u8 a2] w fun e w' => e = .returned (.bool r) ∧ Below w.heap.size w w' := by
 have hu30 := Tryd.underlying30
 have HB := Aside0.mk (Below.refl w.heap.size w)
 have H : ((pandectlaw05_head.f).bind fun t222 => ((pandectref05_Name.f k a0).bind fun t223 => (if t223 = true then (if 0 ≤ (Int.tmod (wrap64 (a2)) 13) then (if (Int.tmod (wrap64 (a2)) 13) ≤ (wrap64 ((Int.tmod (wrap64 (a2)) 13) + 1)) then (if (wrap64 ((Int.tmod (wrap64 (a2)) 13) + 1)) ≤ 13 then (if a0.size + ((⟨#[61, 59, 60, 62, 40, 41, 123, 125, 91, 93, 44, 46, 58]⟩ : ByteArray).extract ((Int.tmod (wrap64 (a2)) 13) : Int).toNat ((wrap64 ((Int.tmod (wrap64 (a2)) 13) + 1)) : Int).toNat).size ≤ 9223372036854775807 then ((pandectref05_Decimal.f k (wrap64 (Int.tmod a1 10000000))).bind fun t224 => (if (a0 ++ ((⟨#[61, 59, 60, 62, 40, 41, 123, 125, 91, 93, 44, 46, 58]⟩ : ByteArray).extract ((Int.tmod (wrap64 (a2)) 13) : Int).toNat ((wrap64 ((Int.tmod (wrap64 (a2)) 13) + 1)) : Int).toNat)).size + t224.size ≤ 9223372036854775807 then ((lexer_Lex.f ((a0 ++ ((⟨#[61, 59, 60, 62, 40, 41, 123, 125, 91, 93, 44, 46, 58]⟩ : ByteArray).extract ((Int.tmod (wrap64 (a2)) 13) : Int).toNat ((wrap64 ((Int.tmod (wrap64 (a2)) 13) + 1)) : Int).toNat)) ++ t224)).bind fun bt225 => (if bt225.2.1 = 0 then (if (bt225.1.length : Int) = 3 then (if t222 = true then (if 0 < (bt225.1.length : Int) then (if (((rd_T30 bt225.1 0).f0) == 1 && ((((rd_T30 bt225.1 0).f1).toList) == a0.toList && (((rd_T30 bt225.1 0).f2) == 0 && (((rd_T30 bt225.1 0).f3) == 0)))) = true then (if 1 < (bt225.1.length : Int) then (if ((rd_T30 bt225.1 1).f0) = 3 then (if ((rd_T30 bt225.1 1).f1).toList = ((⟨#[61, 59, 60, 62, 40, 41, 123, 125, 91, 93, 44, 46, 58]⟩ : ByteArray).extract ((Int.tmod (wrap64 (a2)) 13) : Int).toNat ((wrap64 ((Int.tmod (wrap64 (a2)) 13) + 1)) : Int).toNat).toList then (if 2 < (bt225.1.length : Int) then ((pandectref05_Decimal.f k (wrap64 (Int.tmod a1 10000000))).bind fun t234 => (some (((rd_T30 bt225.1 2).f0) == 2 && ((((rd_T30 bt225.1 2).f1).toList) == t234.toList && (((rd_T30 bt225.1 2).f2) == (wrap64 (Int.tmod a1 10000000)) && (((rd_T30 bt225.1 2).f3) == (wrap64 ((a0.size : Int) + 1)))))))) else (none)) else (some false)) else (some false)) else (none)) else (some false)) else (none)) else (some false)) else (some false)) else (some false))) else (none))) else (none)) else (none)) else (none)) else (none)) else (some t222)))) = some r := h
 clear h
 replace H := Option.bind_eq_some_iff.mp H
 obtain ⟨t222, A40, H⟩ := H
 replace H : ((pandectref05_Name.f k a0).bind fun t223 => (if t223 = true then (if 0 ≤ (Int.tmod (wrap64 (a2)) 13) then (if (Int.tmod (wrap64 (a2)) 13) ≤ (wrap64 ((Int.tmod (wrap64 (a2)) 13) + 1)) then (if (wrap64 ((Int.tmod (wrap64 (a2)) 13) + 1)) ≤ 13 then (if a0.size + ((⟨#[61, 59, 60, 62, 40, 41, 123, 125, 91, 93, 44, 46, 58]⟩ : ByteArray).extract ((Int.tmod (wrap64 (a2)) 13) : Int).toNat ((wrap64 ((Int.tmod (wrap64 (a2)) 13) + 1)) : Int).toNat).size ≤ 9223372036854775807 then ((pandectref05_Decimal.f k (wrap64 (Int.tmod a1 10000000))).bind fun t224 => (if (a0 ++ ((⟨#[61, 59, 60, 62, 40, 41, 123, 125, 91, 93, 44, 46, 58]⟩ : ByteArray).extract ((Int.tmod (wrap64 (a2)) 13) : Int).toNat ((wrap64 ((Int.tmod (wrap64 (a2)) 13) + 1)) : Int).toNat)).size + t224.size ≤ 9223372036854775807 then ((lexer_Lex.f ((a0 ++ ((⟨#[61, 59, 60, 62, 40, 41, 123, 125, 91, 93, 44, 46, 58]⟩ : ByteArray).extract ((Int.tmod (wrap64 (a2)) 13) : Int).toNat ((wrap64 ((Int.tmod (wrap64 (a2)) 13) + 1)) : Int).toNat)) ++ t224)).bind fun bt225 => (if bt225.2.1 = 0 then (if (bt225.1.length : Int) = 3 then (if t222 = true then (if 0 < (bt225.1.length : Int) then (if (((rd_T30 bt225.1 0).f0) == 1 && ((((rd_T30 bt225.1 0).f1).toList) == a0.toList && (((rd_T30 bt225.1 0).f2) == 0 && (((rd_T30 bt225.1 0).f3) == 0)))) = true then (if 1 < (bt225.1.length : Int) then (if ((rd_T30 bt225.1 1).f0) = 3 then (if ((rd_T30 bt225.1 1).f1).toList = ((⟨#[61, 59, 60, 62, 40, 41, 123, 125, 91, 93, 44, 46, 58]⟩ : ByteArray).extract ((Int.tmod (wrap64 (a2)) 13) : Int).toNat ((wrap64 ((Int.tmod (wrap64 (a2)) 13) + 1)) : Int).toNat).toList then (if 2 < (bt225.1.length : Int) then ((pandectref05_Decimal.f k (wrap64 (Int.tmod a1 10000000))).bind fun t234 => (some (((rd_T30 bt225.1 2).f0) == 2 && ((((rd_T30 bt225.1 2).f1).toList) == t234.toList && (((rd_T30 bt225.1 2).f2) == (wrap64 (Int.tmod a1 10000000)) && (((rd_T30 bt225.1 2).f3) == (wrap64 ((a0.size : Int) + 1)))))))) else (none)) else (some false)) else (some false)) else (none)) else (some false)) else (none)) else (some false)) else (some false)) else (some false))) else (none))) else (none)) else (none)) else (none)) else (none)) else (some t222))) = some r := H
 have A4 := Aside0.mk A40
 clear A40
 replace H := Option.bind_eq_some_iff.mp H
 obtain ⟨t223, A50, H⟩ := H
 replace H : (if t223 = true then (if 0 ≤ (Int.tmod (wrap64 (a2)) 13) then (if (Int.tmod (wrap64 (a2)) 13) ≤ (wrap64 ((Int.tmod (wrap64 (a2)) 13) + 1)) then (if (wrap64 ((Int.tmod (wrap64 (a2)) 13) + 1)) ≤ 13 then (if a0.size + ((⟨#[61, 59, 60, 62, 40, 41, 123, 125, 91, 93, 44, 46, 58]⟩ : ByteArray).extract ((Int.tmod (wrap64 (a2)) 13) : Int).toNat ((wrap64 ((Int.tmod (wrap64 (a2)) 13) + 1)) : Int).toNat).size ≤ 9223372036854775807 then ((pandectref05_Decimal.f k (wrap64 (Int.tmod a1 10000000))).bind fun t224 => (if (a0 ++ ((⟨#[61, 59, 60, 62, 40, 41, 123, 125, 91, 93, 44, 46, 58]⟩ : ByteArray).extract ((Int.tmod (wrap64 (a2)) 13) : Int).toNat ((wrap64 ((Int.tmod (wrap64 (a2)) 13) + 1)) : Int).toNat)).size + t224.size ≤ 9223372036854775807 then ((lexer_Lex.f ((a0 ++ ((⟨#[61, 59, 60, 62, 40, 41, 123, 125, 91, 93, 44, 46, 58]⟩ : ByteArray).extract ((Int.tmod (wrap64 (a2)) 13) : Int).toNat ((wrap64 ((Int.tmod (wrap64 (a2)) 13) + 1)) : Int).toNat)) ++ t224)).bind fun bt225 => (if bt225.2.1 = 0 then (if (bt225.1.length : Int) = 3 then (if t222 = true then (if 0 < (bt225.1.length : Int) then (if (((rd_T30 bt225.1 0).f0) == 1 && ((((rd_T30 bt225.1 0).f1).toList) == a0.toList && (((rd_T30 bt225.1 0).f2) == 0 && (((rd_T30 bt225.1 0).f3) == 0)))) = true then (if 1 < (bt225.1.length : Int) then (if ((rd_T30 bt225.1 1).f0) = 3 then (if ((rd_T30 bt225.1 1).f1).toList = ((⟨#[61, 59, 60, 62, 40, 41, 123, 125, 91, 93, 44, 46, 58]⟩ : ByteArray).extract ((Int.tmod (wrap64 (a2)) 13) : Int).toNat ((wrap64 ((Int.tmod (wrap64 (a2)) 13) + 1)) : Int).toNat).toList then (if 2 < (bt225.1.length : Int) then ((pandectref05_Decimal.f k (wrap64 (Int.tmod a1 10000000))).bind fun t234 => (some (((rd_T30 bt225.1 2).f0) == 2 && ((((rd_T30 bt225.1 2).f1).toList) == t234.toList && (((rd_T30 bt225.1 2).f2) == (wrap64 (Int.tmod a1 10000000)) && (((rd_T30 bt225.1 2).f3) == (wrap64 ((a0.size : Int) + 1)))))))) else (none)) else (some false)) else (some false)) else (none)) else (some false)) else (none)) else (some false)) else (some false)) else (some false))) else (none))) else (none)) else (none)) else (none)) else (none)) else (some t222)) = some r := H
 have A5 := Aside0.mk A50
 clear A50
 by_cases c6 : t223 = true
 ·subst c6
  have H1 : (if 0 ≤ (Int.tmod (wrap64 (a2)) 13) then (if (Int.tmod (wrap64 (a2)) 13) ≤ (wrap64 ((Int.tmod (wrap64 (a2)) 13) + 1)) then (if (wrap64 ((Int.tmod (wrap64 (a2)) 13) + 1)) ≤ 13 then (if a0.size + ((⟨#[61, 59, 60, 62, 40, 41, 123, 125, 91, 93, 44, 46, 58]⟩ : ByteArray).extract ((Int.tmod (wrap64 (a2)) 13) : Int).toNat ((wrap64 ((Int.tmod (wrap64 (a2)) 13) + 1)) : Int).toNat).size ≤ 9223372036854775807 then ((pandectref05_Decimal.f k (wrap64 (Int.tmod a1 10000000))).bind fun t224 => (if (a0 ++ ((⟨#[61, 59, 60, 62, 40, 41, 123, 125, 91, 93, 44, 46, 58]⟩ : ByteArray).extract ((Int.tmod (wrap64 (a2)) 13) : Int).toNat ((wrap64 ((Int.tmod (wrap64 (a2)) 13) + 1)) : Int).toNat)).size + t224.size ≤ 9223372036854775807 then ((lexer_Lex.f ((a0 ++ ((⟨#[61, 59, 60, 62, 40, 41, 123, 125, 91, 93, 44, 46, 58]⟩ : ByteArray).extract ((Int.tmod (wrap64 (a2)) 13) : Int).toNat ((wrap64 ((Int.tmod (wrap64 (a2)) 13) + 1)) : Int).toNat)) ++ t224)).bind fun bt225 => (if bt225.2.1 = 0 then (if (bt225.1.length : Int) = 3 then (if t222 = true then (if 0 < (bt225.1.length : Int) then (if (((rd_T30 bt225.1 0).f0) == 1 && ((((rd_T30 bt225.1 0).f1).toList) == a0.toList && (((rd_T30 bt225.1 0).f2) == 0 && (((rd_T30 bt225.1 0).f3) == 0)))) = true then (if 1 < (bt225.1.length : Int) then (if ((rd_T30 bt225.1 1).f0) = 3 then (if ((rd_T30 bt225.1 1).f1).toList = ((⟨#[61, 59, 60, 62, 40, 41, 123, 125, 91, 93, 44, 46, 58]⟩ : ByteArray).extract ((Int.tmod (wrap64 (a2)) 13) : Int).toNat ((wrap64 ((Int.tmod (wrap64 (a2)) 13) + 1)) : Int).toNat).toList then (if 2 < (bt225.1.length : Int) then ((pandectref05_Decimal.f k (wrap64 (Int.tmod a1 10000000))).bind fun t234 => (some (((rd_T30 bt225.1 2).f0) == 2 && ((((rd_T30 bt225.1 2).f1).toList) == t234.toList && (((rd_T30 bt225.1 2).f2) == (wrap64 (Int.tmod a1 10000000)) && (((rd_T30 bt225.1 2).f3) == (wrap64 ((a0.size : Int) + 1)))))))) else (none)) else (some false)) else (some false)) else (none)) else (some false)) else (none)) else (some false)) else (some false)) else (some false))) else (none))) else (none)) else (none)) else (none)) else (none)) = some r := by rw [if_pos rfl] at H; exact H
  clear H
  have H := H1
  clear H1
  obtain ⟨ji7, hji7⟩ : ∃ j_ : Int, (Int.tmod (wrap64 (a2)) 13) = j_ := ⟨_, rfl⟩
  replace H : (if 0 ≤ (ji7) then (if (ji7) ≤ (wrap64 ((ji7) + 1)) then (if (wrap64 ((ji7) + 1)) ≤ 13 then (if a0.size + ((⟨#[61, 59, 60, 62, 40, 41, 123, 125, 91, 93, 44, 46, 58]⟩ : ByteArray).extract ((ji7) : Int).toNat ((wrap64 ((ji7) + 1)) : Int).toNat).size ≤ 9223372036854775807 then ((pandectref05_Decimal.f k (wrap64 (Int.tmod a1 10000000))).bind fun t224 => (if (a0 ++ ((⟨#[61, 59, 60, 62, 40, 41, 123, 125, 91, 93, 44, 46, 58]⟩ : ByteArray).extract ((ji7) : Int).toNat ((wrap64 ((ji7) + 1)) : Int).toNat)).size + t224.size ≤ 9223372036854775807 then ((lexer_Lex.f ((a0 ++ ((⟨#[61, 59, 60, 62, 40, 41, 123, 125, 91, 93, 44, 46, 58]⟩ : ByteArray).extract ((ji7) : Int).toNat ((wrap64 ((ji7) + 1)) : Int).toNat)) ++ t224)).bind fun bt225 => (if bt225.2.1 = 0 then (if (bt225.1.length : Int) = 3 then (if t222 = true then (if 0 < (bt225.1.length : Int) then (if (((rd_T30 bt225.1 0).f0) == 1 && ((((rd_T30 bt225.1 0).f1).toList) == a0.toList && (((rd_T30 bt225.1 0).f2) == 0 && (((rd_T30 bt225.1 0).f3) == 0)))) = true then (if 1 < (bt225.1.length : Int) then (if ((rd_T30 bt225.1 1).f0) = 3 then (if ((rd_T30 bt225.1 1).f1).toList = ((⟨#[61, 59, 60, 62, 40, 41, 123, 125, 91, 93, 44, 46, 58]⟩ : ByteArray).extract ((ji7) : Int).toNat ((wrap64 ((ji7) + 1)) : Int).toNat).toList then (if 2 < (bt225.1.length : Int) then ((pandectref05_Decimal.f k (wrap64 (Int.tmod a1 10000000))).bind fun t234 => (some (((rd_T30 bt225.1 2).f0) == 2 && ((((rd_T30 bt225.1 2).f1).toList) == t234.toList && (((rd_T30 bt225.1 2).f2) == (wrap64 (Int.tmod a1 10000000)) && (((rd_T30 bt225.1 2).f3) == (wrap64 ((a0.size : Int) + 1)))))))) else (none)) else (some false)) else (some false)) else (none)) else (some false)) else (none)) else (some false)) else (some false)) else (some false))) else (none))) else (none)) else (none)) else (none)) else (none)) = some r := by first | (rw [hji7] at H; exact H) | (simp only [hji7] at H ⊢; exact H)
  (try rw [hji7] at A4)
  (try rw [hji7] at A5)
  by_cases c8 : 0 ≤ (ji7)
  ·rw [if_pos c8] at H
   have c8b0 := eq_true c8
   have c8b1 : decide (0 ≤ (ji7)) = true := decide_eq_true c8
   clear c8
   by_cases c9 : (ji7) ≤ (wrap64 ((ji7) + 1))
   ·rw [if_pos c9] at H
    have c9b0 := eq_true c9
    have c9b1 : decide ((ji7) ≤ (wrap64 ((ji7) + 1))) = true := decide_eq_true c9
    by_cases c10 : (wrap64 ((ji7) + 1)) ≤ 13
    ·rw [if_pos c10] at H
     have c10b0 := eq_true c10
     have c10b1 : decide ((wrap64 ((ji7) + 1)) ≤ 13) = true := decide_eq_true c10
     by_cases c11 : a0.size + ((⟨#[61, 59, 60, 62, 40, 41, 123, 125, 91, 93, 44, 46, 58]⟩ : ByteArray).extract ((ji7) : Int).toNat ((wrap64 ((ji7) + 1)) : Int).toNat).size ≤ 9223372036854775807
     ·rw [if_pos c11] at H
      have c11b0 := eq_true c11
      have c11b1 : decide (a0.size + ((⟨#[61, 59, 60, 62, 40, 41, 123, 125, 91, 93, 44, 46, 58]⟩ : ByteArray).extract ((ji7) : Int).toNat ((wrap64 ((ji7) + 1)) : Int).toNat).size ≤ 9223372036854775807) = true := decide_eq_true c11
      try have c11b2 : (9223372036854775807 < a0.size + ((⟨#[61, 59, 60, 62, 40, 41, 123, 125, 91, 93, 44, 46, 58]⟩ : ByteArray).extract ((ji7) : Int).toNat ((wrap64 ((ji7) + 1)) : Int).toNat).size) = False := eq_false (Nat.not_lt.2 c11)
      replace H := Option.bind_eq_some_iff.mp H
      obtain ⟨t224, A120, H⟩ := H
      replace H : (if (a0 ++ ((⟨#[61, 59, 60, 62, 40, 41, 123, 125, 91, 93, 44, 46, 58]⟩ : ByteArray).extract ((ji7) : Int).toNat ((wrap64 ((ji7) + 1)) : Int).toNat)).size + t224.size ≤ 9223372036854775807 then ((lexer_Lex.f ((a0 ++ ((⟨#[61, 59, 60, 62, 40, 41, 123, 125, 91, 93, 44, 46, 58]⟩ : ByteArray).extract ((ji7) : Int).toNat ((wrap64 ((ji7) + 1)) : Int).toNat)) ++ t224)).bind fun bt225 => (if bt225.2.1 = 0 then (if (bt225.1.length : Int) = 3 then (if t222 = true then (if 0 < (bt225.1.length : Int) then (if (((rd_T30 bt225.1 0).f0) == 1 && ((((rd_T30 bt225.1 0).f1).toList) == a0.toList && (((rd_T30 bt225.1 0).f2) == 0 && (((rd_T30 bt225.1 0).f3) == 0)))) = true then (if 1 < (bt225.1.length : Int) then (if ((rd_T30 bt225.1 1).f0) = 3 then (if ((rd_T30 bt225.1 1).f1).toList = ((⟨#[61, 59, 60, 62, 40, 41, 123, 125, 91, 93, 44, 46, 58]⟩ : ByteArray).extract ((ji7) : Int).toNat ((wrap64 ((ji7) + 1)) : Int).toNat).toList then (if 2 < (bt225.1.length : Int) then ((pandectref05_Decimal.f k (wrap64 (Int.tmod a1 10000000))).bind fun t234 => (some (((rd_T30 bt225.1 2).f0) == 2 && ((((rd_T30 bt225.1 2).f1).toList) == t234.toList && (((rd_T30 bt225.1 2).f2) == (wrap64 (Int.tmod a1 10000000)) && (((rd_T30 bt225.1 2).f3) == (wrap64 ((a0.size : Int) + 1)))))))) else (none)) else (some false)) else (some false)) else (none)) else (some false)) else (none)) else (some false)) else (some false)) else (some false))) else (none)) = some r := H
      have A12 := Aside0.mk A120
      clear A120
      by_cases c13 : (a0 ++ ((⟨#[61, 59, 60, 62, 40, 41, 123, 125, 91, 93, 44, 46, 58]⟩ : ByteArray).extract ((ji7) : Int).toNat ((wrap64 ((ji7) + 1)) : Int).toNat)).size + t224.size ≤ 9223372036854775807
      ·rw [if_pos c13] at H
       have c13b0 := eq_true c13
       have c13b1 : decide ((a0 ++ ((⟨#[61, 59, 60, 62, 40, 41, 123, 125, 91, 93, 44, 46, 58]⟩ : ByteArray).extract ((ji7) : Int).toNat ((wrap64 ((ji7) + 1)) : Int).toNat)).size + t224.size ≤ 9223372036854775807) = true := decide_eq_true c13
       have c13b9 : (9223372036854775807 < a0.size + ((wrap64 (ji7 + 1)).toNat - ji7.toNat) + t224.size) = False := eq_false (by have h_ := c13; have hz_ : (⟨#[61, 59, 60, 62, 40, 41, 123, 125, 91, 93, 44, 46, 58]⟩ : ByteArray).size = 13 := rfl; simp only [ByteArray.size_append, ByteArray.size_extract, hz_] at h_; omega)
       try have c13b2 : (9223372036854775807 < (a0 ++ ((⟨#[61, 59, 60, 62, 40, 41, 123, 125, 91, 93, 44, 46, 58]⟩ : ByteArray).extract ((ji7) : Int).toNat ((wrap64 ((ji7) + 1)) : Int).toNat)).size + t224.size) = False := eq_false (Nat.not_lt.2 c13)
       replace H := Option.bind_eq_some_iff.mp H
       obtain ⟨⟨t225, t226, t227⟩, A140, H⟩ := H
       replace H : (if t226 = 0 then (if (t225.length : Int) = 3 then (if t222 = true then (if 0 < (t225.length : Int) then (if (((rd_T30 t225 0).f0) == 1 && ((((rd_T30 t225 0).f1).toList) == a0.toList && (((rd_T30 t225 0).f2) == 0 && (((rd_T30 t225 0).f3) == 0)))) = true then (if 1 < (t225.length : Int) then (if ((rd_T30 t225 1).f0) = 3 then (if ((rd_T30 t225 1).f1).toList = ((⟨#[61, 59, 60, 62, 40, 41, 123, 125, 91, 93, 44, 46, 58]⟩ : ByteArray).extract ((ji7) : Int).toNat ((wrap64 ((ji7) + 1)) : Int).toNat).toList then (if 2 < (t225.length : Int) then ((pandectref05_Decimal.f k (wrap64 (Int.tmod a1 10000000))).bind fun t234 => (some (((rd_T30 t225 2).f0) == 2 && ((((rd_T30 t225 2).f1).toList) == t234.toList && (((rd_T30 t225 2).f2) == (wrap64 (Int.tmod a1 10000000)) && (((rd_T30 t225 2).f3) == (wrap64 ((a0.size : Int) + 1)))))))) else (none)) else (some false)) else (some false)) else (none)) else (some false)) else (none)) else (some false)) else (some false)) else (some false)) = some r := H
       have A14 := Aside0.mk A140
       clear A140
       by_cases c15 : t226 = 0
       ·rw [if_pos c15] at H
        have c15b0 : (t226 == 0) = true := beq_iff_eq.mpr c15
        have c15b1 : (t226 != 0) = false := bne_eq_false_iff_eq.mpr c15
        clear c15
        by_cases c16 : (t225.length : Int) = 3
        ·rw [if_pos c16] at H
         have c16b0 : ((t225.length : Int) == 3) = true := beq_iff_eq.mpr c16
         have c16b1 : ((t225.length : Int) != 3) = false := bne_eq_false_iff_eq.mpr c16
         clear c16
         by_cases c17 : t222 = true
         ·subst c17
          have H1 : (if 0 < (t225.length : Int) then (if (((rd_T30 t225 0).f0) == 1 && ((((rd_T30 t225 0).f1).toList) == a0.toList && (((rd_T30 t225 0).f2) == 0 && (((rd_T30 t225 0).f3) == 0)))) = true then (if 1 < (t225.length : Int) then (if ((rd_T30 t225 1).f0) = 3 then (if ((rd_T30 t225 1).f1).toList = ((⟨#[61, 59, 60, 62, 40, 41, 123, 125, 91, 93, 44, 46, 58]⟩ : ByteArray).extract ((ji7) : Int).toNat ((wrap64 ((ji7) + 1)) : Int).toNat).toList then (if 2 < (t225.length : Int) then ((pandectref05_Decimal.f k (wrap64 (Int.tmod a1 10000000))).bind fun t234 => (some (((rd_T30 t225 2).f0) == 2 && ((((rd_T30 t225 2).f1).toList) == t234.toList && (((rd_T30 t225 2).f2) == (wrap64 (Int.tmod a1 10000000)) && (((rd_T30 t225 2).f3) == (wrap64 ((a0.size : Int) + 1)))))))) else (none)) else (some false)) else (some false)) else (none)) else (some false)) else (none)) = some r := by rw [if_pos rfl] at H; exact H
          clear H
          have H := H1
          clear H1
          by_cases c18 : 0 < (t225.length : Int)
          ·rw [if_pos c18] at H
           have c18b0 : decide (0 < (t225.length : Int)) = true := decide_eq_true c18
           have c18b1 : decide (0 < t225.length) = true := decide_eq_true (by omega)
           clear c18
           by_cases c19 : (((rd_T30 t225 0).f0) == 1 && ((((rd_T30 t225 0).f1).toList) == a0.toList && (((rd_T30 t225 0).f2) == 0 && (((rd_T30 t225 0).f3) == 0)))) = true
           ·rw [if_pos c19] at H
            have c19b0 : (((rd_T30 t225 0).f0) == 1 && ((((rd_T30 t225 0).f1).toList) == a0.toList && (((rd_T30 t225 0).f2) == 0 && (((rd_T30 t225 0).f3) == 0)))) = true := c19
            (try (have c19b1 : decide (((rd_T30 t225 0).f0) = 1 && ((((rd_T30 t225 0).f1).toList) == a0.toList && (((rd_T30 t225 0).f2) == 0 && (((rd_T30 t225 0).f3) == 0)))) = true := by simpa using c19))
            (try (have c19b2 : (((rd_T30 t225 0).f0) == 1 && ((((rd_T30 t225 0).f1).toList) == a0.toList && (((rd_T30 t225 0).f2) == 0 && (((rd_T30 t225 0).f3) == 0)))) = true := by simpa using c19))
            clear c19
            by_cases c20 : 1 < (t225.length : Int)
            ·rw [if_pos c20] at H
             have c20b0 : decide (1 < (t225.length : Int)) = true := decide_eq_true c20
             have c20b1 : decide (1 < t225.length) = true := decide_eq_true (by omega)
             clear c20
             by_cases c21 : ((rd_T30 t225 1).f0) = 3
             ·rw [if_pos c21] at H
              have c21b0 : (((rd_T30 t225 1).f0) == 3) = true := beq_iff_eq.mpr c21
              have c21b1 : (((rd_T30 t225 1).f0) != 3) = false := bne_eq_false_iff_eq.mpr c21
              clear c21
              by_cases c22 : ((rd_T30 t225 1).f1).toList = ((⟨#[61, 59, 60, 62, 40, 41, 123, 125, 91, 93, 44, 46, 58]⟩ : ByteArray).extract ((ji7) : Int).toNat ((wrap64 ((ji7) + 1)) : Int).toNat).toList
              ·rw [if_pos c22] at H
               have c22b0 : (((rd_T30 t225 1).f1).toList == ((⟨#[61, 59, 60, 62, 40, 41, 123, 125, 91, 93, 44, 46, 58]⟩ : ByteArray).extract ((ji7) : Int).toNat ((wrap64 ((ji7) + 1)) : Int).toNat).toList) = true := beq_iff_eq.mpr c22
               have c22b1 : (((rd_T30 t225 1).f1).toList != ((⟨#[61, 59, 60, 62, 40, 41, 123, 125, 91, 93, 44, 46, 58]⟩ : ByteArray).extract ((ji7) : Int).toNat ((wrap64 ((ji7) + 1)) : Int).toNat).toList) = false := bne_eq_false_iff_eq.mpr c22
               clear c22
               by_cases c23 : 2 < (t225.length : Int)
               ·rw [if_pos c23] at H
                have c23b0 : decide (2 < (t225.length : Int)) = true := decide_eq_true c23
                have c23b1 : decide (2 < t225.length) = true := decide_eq_true (by omega)
                clear c23
                replace H := Option.bind_eq_some_iff.mp H
                obtain ⟨t234, A240, H⟩ := H
                replace H : (some (((rd_T30 t225 2).f0) == 2 && ((((rd_T30 t225 2).f1).toList) == t234.toList && (((rd_T30 t225 2).f2) == (wrap64 (Int.tmod a1 10000000)) && (((rd_T30 t225 2).f3) == (wrap64 ((a0.size : Int) + 1))))))) = some r := H
                have A24 := Aside0.mk A240
                clear A240
                obtain rfl := Option.some.inj H
                go_enter Tryd.func10, Tryd.ntmps10
                try go_wp2_with (first | ((with_reducible refine gate_callee (f := 11) rfl ?_); refine goesL_ (some 13) rfl rfl Tryd.func11 (by kernel_rfl) rfl #[] rfl (by (try simp only [List.map_toArray, List.map_cons, List.map_nil]); first | done | rfl | (simp only [List.length_drop, List.length_take]; rfl)) ?_; (with_reducible refine (pandectlaw05_head.calls  true _ A4.out).mono ?_); rintro e w25 ⟨rfl, hb⟩; refine ⟨_, rfl, ?_⟩; have n0_ := Aside0.mk (below_step (by repeat (first | (with_reducible first | exact HB.out | apply below_alloc | apply pw_below_drewN | apply below_drew1) | exact HB.out)) hb); clear HB; have HB := n0_; clear n0_; (try clear hb); (try clear hb2); (try clear hk); (try clear hi)) | ((with_reducible refine gate_callee (f := 18) rfl ?_); refine goesL_ (some 15) rfl rfl Tryd.func18 (by kernel_rfl) rfl #[.string a0] rfl (by (try simp only [List.map_toArray, List.map_cons, List.map_nil]); first | done | rfl | (simp only [List.length_drop, List.length_take]; rfl)) ?_; (with_reducible refine (pandectref05_Name.calls k a0 true _ A5.out).mono ?_); rintro e w' ⟨rfl, ⟨nd, rfl⟩⟩; refine ⟨_, rfl, ?_⟩) | ((with_reducible refine gate_callee (f := 19) rfl ?_); refine goesL_ (some 34) rfl rfl Tryd.func19 (by kernel_rfl) rfl #[.int .i64 (wrap64 (Int.tmod a1 10000000))] rfl (by (try simp only [List.map_toArray, List.map_cons, List.map_nil]); first | done | rfl | (simp only [List.length_drop, List.length_take]; rfl)) ?_; (with_reducible refine (pandectref05_Decimal.calls k (wrap64 (Int.tmod a1 10000000)) t224 _ A12.out).mono ?_); rintro e w' ⟨rfl, ⟨nd, rfl⟩⟩; refine ⟨_, rfl, ?_⟩) | ((with_reducible refine gate_callee (f := 12) rfl ?_); refine goesL_ (some 36) rfl rfl Tryd.func12 (by kernel_rfl) rfl #[.string ((a0 ++ ((⟨#[61, 59, 60, 62, 40, 41, 123, 125, 91, 93, 44, 46, 58]⟩ : ByteArray).extract ((ji7) : Int).toNat ((wrap64 ((ji7) + 1)) : Int).toNat)) ++ t224)] rfl (by (try simp only [List.map_toArray, List.map_cons, List.map_nil]); first | done | (simp only [hji7]; rfl) | rfl | (simp only [List.length_drop, List.length_take]; rfl)) ?_; (with_reducible refine (lexer_Lex.calls ((a0 ++ ((⟨#[61, 59, 60, 62, 40, 41, 123, 125, 91, 93, 44, 46, 58]⟩ : ByteArray).extract ((ji7) : Int).toNat ((wrap64 ((ji7) + 1)) : Int).toNat)) ++ t224) t225 t226 t227 _ A14.out).mono ?_); rintro e w26 ⟨v228, rfl, ho0, hb⟩; refine ⟨_, rfl, ?_⟩; have n0_ := Aside0.mk (Kd.R_lower ho0 (below_size (by repeat (first | (with_reducible first | exact HB.out | apply below_alloc | apply pw_below_drewN | apply below_drew1) | exact HB.out)))); have n1_ := Aside0.mk (below_step (by repeat (first | (with_reducible first | exact HB.out | apply below_alloc | apply pw_below_drewN | apply below_drew1) | exact HB.out)) hb); clear HB; have HO229 := n0_; have HB := n1_; clear n0_ n1_; (try clear hb); (try clear hb2); (try clear hk); (try clear hi); (try clear ho0); obtain ⟨Ao27, co27, eo27⟩ := Kd.R_slice HO229.out; subst eo27))
                have n0_ := Aside0.mk (Kd.R_drew HO229.out)
                have n1_ := Aside0.mk (below_drew1 HB.out)
                clear HO229
                clear HB
                have HO229 := n0_
                have HB := n1_
                clear n0_ n1_
                have p230 : 0 ≤ (0 : Int) := (by omega)
                have q230 : 0 < (t225.length : Int) := of_decide_eq_true (by first | (with_reducible assumption) | assumption)
                obtain ⟨ad230, e230, hx230_0, hx230_1, hx230_2, hx230_3⟩ := at_T30 (Kd.R_reads' HO229.out).2.2 0 p230 q230
                cases e230
                have qi230 : (0 < t225.length) = True := eq_true (by omega)
                (try rw [show ((0 : Int)).toNat = 0 from rfl] at hx230_0)
                (try rw [show 0 * 4 = 0 from rfl] at hx230_0)
                (try rw [Addr.add_zero'] at hx230_0)
                (try rw [show ((0 : Int)).toNat = 0 from rfl] at hx230_1)
                (try rw [show 0 * 4 = 0 from rfl] at hx230_1)
                (try rw [Addr.add_zero'] at hx230_1)
                (try rw [show ((0 : Int)).toNat = 0 from rfl] at hx230_2)
                (try rw [show 0 * 4 = 0 from rfl] at hx230_2)
                (try rw [Addr.add_zero'] at hx230_2)
                (try rw [show ((0 : Int)).toNat = 0 from rfl] at hx230_3)
                (try rw [show 0 * 4 = 0 from rfl] at hx230_3)
                (try rw [Addr.add_zero'] at hx230_3)
                replace p230 := eq_true p230
                replace q230 := eq_true q230
                have p231 : 0 ≤ (1 : Int) := (by omega)
                have q231 : 1 < (t225.length : Int) := of_decide_eq_true (by first | (with_reducible assumption) | assumption)
                obtain ⟨ad231, e231, hx231_0, hx231_1, hx231_2, hx231_3⟩ := at_T30 (Kd.R_reads' HO229.out).2.2 1 p231 q231
                obtain rfl : ad230 = ad231 := (by injection e231)
                (try simp only [show (1 : Int).toNat = 1 from rfl, Nat.reduceMul, Nat.reduceEqDiff, Go.Addr.add, ↓reduceIte] at hx231_0)
                (try simp only [show (1 : Int).toNat = 1 from rfl, Nat.reduceMul, Nat.reduceEqDiff, Go.Addr.add, ↓reduceIte] at hx231_1)
                (try simp only [show (1 : Int).toNat = 1 from rfl, Nat.reduceMul, Nat.reduceEqDiff, Go.Addr.add, ↓reduceIte] at hx231_2)
                (try simp only [show (1 : Int).toNat = 1 from rfl, Nat.reduceMul, Nat.reduceEqDiff, Go.Addr.add, ↓reduceIte] at hx231_3)
                have qi231 : (1 < t225.length) = True := eq_true (by omega)
                (try rw [show ((1 : Int)).toNat = 1 from rfl] at hx231_0)
                (try rw [show 1 * 4 = 4 from rfl] at hx231_0)
                (try rw [show ((1 : Int)).toNat = 1 from rfl] at hx231_1)
                (try rw [show 1 * 4 = 4 from rfl] at hx231_1)
                (try rw [show ((1 : Int)).toNat = 1 from rfl] at hx231_2)
                (try rw [show 1 * 4 = 4 from rfl] at hx231_2)
                (try rw [show ((1 : Int)).toNat = 1 from rfl] at hx231_3)
                (try rw [show 1 * 4 = 4 from rfl] at hx231_3)
                replace p231 := eq_true p231
                replace q231 := eq_true q231
                have p232 : 0 ≤ (1 : Int) := (by omega)
                have q232 : 1 < (t225.length : Int) := of_decide_eq_true (by first | (with_reducible assumption) | assumption)
                obtain ⟨ad232, e232, hx232_0, hx232_1, hx232_2, hx232_3⟩ := at_T30 (Kd.R_reads' HO229.out).2.2 1 p232 q232
                obtain rfl : ad230 = ad232 := (by injection e232)
                (try simp only [show (1 : Int).toNat = 1 from rfl, Nat.reduceMul, Nat.reduceEqDiff, Go.Addr.add, ↓reduceIte] at hx232_0)
                (try simp only [show (1 : Int).toNat = 1 from rfl, Nat.reduceMul, Nat.reduceEqDiff, Go.Addr.add, ↓reduceIte] at hx232_1)
                (try simp only [show (1 : Int).toNat = 1 from rfl, Nat.reduceMul, Nat.reduceEqDiff, Go.Addr.add, ↓reduceIte] at hx232_2)
                (try simp only [show (1 : Int).toNat = 1 from rfl, Nat.reduceMul, Nat.reduceEqDiff, Go.Addr.add, ↓reduceIte] at hx232_3)
                have qi232 : (1 < t225.length) = True := eq_true (by omega)
                (try rw [show ((1 : Int)).toNat = 1 from rfl] at hx232_0)
                (try rw [show 1 * 4 = 4 from rfl] at hx232_0)
                (try rw [show ((1 : Int)).toNat = 1 from rfl] at hx232_1)
                (try rw [show 1 * 4 = 4 from rfl] at hx232_1)
                (try rw [show ((1 : Int)).toNat = 1 from rfl] at hx232_2)
                (try rw [show 1 * 4 = 4 from rfl] at hx232_2)
                (try rw [show ((1 : Int)).toNat = 1 from rfl] at hx232_3)
                (try rw [show 1 * 4 = 4 from rfl] at hx232_3)
                replace p232 := eq_true p232
                replace q232 := eq_true q232
                have p233 : 0 ≤ (2 : Int) := (by omega)
                have q233 : 2 < (t225.length : Int) := of_decide_eq_true (by first | (with_reducible assumption) | assumption)
                obtain ⟨ad233, e233, hx233_0, hx233_1, hx233_2, hx233_3⟩ := at_T30 (Kd.R_reads' HO229.out).2.2 2 p233 q233
                obtain rfl : ad230 = ad233 := (by injection e233)
                (try simp only [show (2 : Int).toNat = 2 from rfl, Nat.reduceMul, Nat.reduceEqDiff, Go.Addr.add, ↓reduceIte] at hx233_0)
                (try simp only [show (2 : Int).toNat = 2 from rfl, Nat.reduceMul, Nat.reduceEqDiff, Go.Addr.add, ↓reduceIte] at hx233_1)
                (try simp only [show (2 : Int).toNat = 2 from rfl, Nat.reduceMul, Nat.reduceEqDiff, Go.Addr.add, ↓reduceIte] at hx233_2)
                (try simp only [show (2 : Int).toNat = 2 from rfl, Nat.reduceMul, Nat.reduceEqDiff, Go.Addr.add, ↓reduceIte] at hx233_3)
                have qi233 : (2 < t225.length) = True := eq_true (by omega)
                (try rw [show ((2 : Int)).toNat = 2 from rfl] at hx233_0)
                (try rw [show 2 * 4 = 8 from rfl] at hx233_0)
                (try rw [show ((2 : Int)).toNat = 2 from rfl] at hx233_1)
                (try rw [show 2 * 4 = 8 from rfl] at hx233_1)
                (try rw [show ((2 : Int)).toNat = 2 from rfl] at hx233_2)
                (try rw [show 2 * 4 = 8 from rfl] at hx233_2)
                (try rw [show ((2 : Int)).toNat = 2 from rfl] at hx233_3)
                (try rw [show 2 * 4 = 8 from rfl] at hx233_3)
                replace p233 := eq_true p233
                replace q233 := eq_true q233
                refine start_ (n := 38) (S := fun w' => w'.cell? ad230 = some (.int .i64 ((rd_T30 t225 0).f0)) ∧ w'.cell? ⟨ad230.block, ad230.off + 1, none⟩ = some (.string ((rd_T30 t225 0).f1)) ∧ w'.cell? ⟨ad230.block, ad230.off + 2, none⟩ = some (.int .i64 ((rd_T30 t225 0).f2)) ∧ w'.cell? ⟨ad230.block, ad230.off + 3, none⟩ = some (.int .i64 ((rd_T30 t225 0).f3)) ∧ w'.cell? ⟨ad230.block, ad230.off + 4, none⟩ = some (.int .i64 ((rd_T30 t225 1).f0)) ∧ w'.cell? ⟨ad230.block, ad230.off + 4 + 1, none⟩ = some (.string ((rd_T30 t225 1).f1)) ∧ w'.cell? ⟨ad230.block, ad230.off + 4 + 2, none⟩ = some (.int .i64 ((rd_T30 t225 1).f2)) ∧ w'.cell? ⟨ad230.block, ad230.off + 4 + 3, none⟩ = some (.int .i64 ((rd_T30 t225 1).f3)) ∧ w'.cell? ⟨ad230.block, ad230.off + 4, none⟩ = some (.int .i64 ((rd_T30 t225 1).f0)) ∧ w'.cell? ⟨ad230.block, ad230.off + 4 + 1, none⟩ = some (.string ((rd_T30 t225 1).f1)) ∧ w'.cell? ⟨ad230.block, ad230.off + 4 + 2, none⟩ = some (.int .i64 ((rd_T30 t225 1).f2)) ∧ w'.cell? ⟨ad230.block, ad230.off + 4 + 3, none⟩ = some (.int .i64 ((rd_T30 t225 1).f3)) ∧ w'.cell? ⟨ad230.block, ad230.off + 8, none⟩ = some (.int .i64 ((rd_T30 t225 2).f0)) ∧ w'.cell? ⟨ad230.block, ad230.off + 8 + 1, none⟩ = some (.string ((rd_T30 t225 2).f1)) ∧ w'.cell? ⟨ad230.block, ad230.off + 8 + 2, none⟩ = some (.int .i64 ((rd_T30 t225 2).f2)) ∧ w'.cell? ⟨ad230.block, ad230.off + 8 + 3, none⟩ = some (.int .i64 ((rd_T30 t225 2).f3))) (ds := []) #[false, false, false, false, false, false, false, false, false, false, false, false, false, false, false, false, false, false, false, false, false, false, false, false, false, false, false, false, false, false, false, false, false, false, false, false, false, false] (by kernel_rfl) rfl rfl ⟨hx230_0, hx230_1, hx230_2, hx230_3, hx231_0, hx231_1, hx231_2, hx231_3, hx232_0, hx232_1, hx232_2, hx232_3, hx233_0, hx233_1, hx233_2, hx233_3⟩ (fun hHeld => ?_); refine with_tabW pandectlaw05_LexerWords.tab9 pandectlaw05_LexerWords.bits9 (fun HT_ HW_ => ?_)
                generalize w26.drew = w28 at HO229 HB hx230_0 hx230_1 hx230_2 hx230_3 hx231_0 hx231_1 hx231_2 hx231_3 hx232_0 hx232_1 hx232_2 hx232_3 hx233_0 hx233_1 hx233_2 hx233_3 hHeld ⊢
                refine pure_ (i := 0) (N := some 47) (v := ?_) (a' := ?_) #[true, false, false, false, false, false, false, false, false, false, false, false, false, false, false, false, false, false, false, false, false, false, false, false, false, false, false, false, false, false, false, false, false, false, false, false, false, false] rfl rfl (any_of HT_.out (by kernel_rfl)) (fun _ _ _ h => h) (Or.inl ⟨by rfl, ?_⟩) ?_ ?_
                rotate_left
                ·intro w'
                 go_simp
                 first | with_reducible rfl | (rw [if_neg (by have h1_ : (⟨#[10]⟩ : ByteArray).size = 1 := rfl; (try have hc8_ := of_decide_eq_true c8b1); (try have hc9_ := of_decide_eq_true c9b1); (try have hc10_ := of_decide_eq_true c10b1); (try have hc11_ := of_decide_eq_true c11b1); (try have hc13_ := of_decide_eq_true c13b1); (try simp only [ByteArray.size_append, ByteArray.size_extract] at hc8_); (try simp only [ByteArray.size_append, ByteArray.size_extract] at hc9_); (try simp only [ByteArray.size_append, ByteArray.size_extract] at hc10_); (try simp only [ByteArray.size_append, ByteArray.size_extract] at hc11_); (try simp only [ByteArray.size_append, ByteArray.size_extract] at hc13_); omega)]; try with_reducible rfl)
                rotate_left
                ·simp only [Act.put, List.setIfInBounds_toArray, List.set_cons_zero, List.set_cons_succ, i64_w, i32_w]
                 rfl
                refine pure_ (i := 1) (N := some 48) (v := ?_) (a' := ?_) #[true, true, false, false, false, false, false, false, false, false, false, false, false, false, false, false, false, false, false, false, false, false, false, false, false, false, false, false, false, false, false, false, false, false, false, false, false, false] rfl rfl (any_of HT_.out (by kernel_rfl)) (fun _ _ _ h => h) (Or.inl ⟨by rfl, ?_⟩) ?_ ?_
                rotate_left
                ·intro w'
                 go_simp
                 first | with_reducible rfl | (rw [if_neg (by have h1_ : (⟨#[10]⟩ : ByteArray).size = 1 := rfl; (try have hc8_ := of_decide_eq_true c8b1); (try have hc9_ := of_decide_eq_true c9b1); (try have hc10_ := of_decide_eq_true c10b1); (try have hc11_ := of_decide_eq_true c11b1); (try have hc13_ := of_decide_eq_true c13b1); (try simp only [ByteArray.size_append, ByteArray.size_extract] at hc8_); (try simp only [ByteArray.size_append, ByteArray.size_extract] at hc9_); (try simp only [ByteArray.size_append, ByteArray.size_extract] at hc10_); (try simp only [ByteArray.size_append, ByteArray.size_extract] at hc11_); (try simp only [ByteArray.size_append, ByteArray.size_extract] at hc13_); omega)]; try with_reducible rfl)
                rotate_left
                ·simp only [Act.put, List.setIfInBounds_toArray, List.set_cons_zero, List.set_cons_succ, i64_w, i32_w]
                 rfl
                refine pure_ (i := 2) (N := some 49) (v := ?_) (a' := ?_) #[true, true, true, false, false, false, false, false, false, false, false, false, false, false, false, false, false, false, false, false, false, false, false, false, false, false, false, false, false, false, false, false, false, false, false, false, false, false] rfl rfl (any_of HT_.out (by kernel_rfl)) (fun _ _ _ h => h) (Or.inl ⟨by rfl, ?_⟩) ?_ ?_
                rotate_left
                ·intro w'
                 go_simp
                 first | with_reducible rfl | (rw [if_neg (by have h1_ : (⟨#[10]⟩ : ByteArray).size = 1 := rfl; (try have hc8_ := of_decide_eq_true c8b1); (try have hc9_ := of_decide_eq_true c9b1); (try have hc10_ := of_decide_eq_true c10b1); (try have hc11_ := of_decide_eq_true c11b1); (try have hc13_ := of_decide_eq_true c13b1); (try simp only [ByteArray.size_append, ByteArray.size_extract] at hc8_); (try simp only [ByteArray.size_append, ByteArray.size_extract] at hc9_); (try simp only [ByteArray.size_append, ByteArray.size_extract] at hc10_); (try simp only [ByteArray.size_append, ByteArray.size_extract] at hc11_); (try simp only [ByteArray.size_append, ByteArray.size_extract] at hc13_); omega)]; try with_reducible rfl)
                rotate_left
                ·simp only [Act.put, List.setIfInBounds_toArray, List.set_cons_zero, List.set_cons_succ, i64_w, i32_w]
                 rfl
                refine pure_ (i := 3) (N := some 50) (v := ?_) (a' := ?_) #[true, true, true, true, false, false, false, false, false, false, false, false, false, false, false, false, false, false, false, false, false, false, false, false, false, false, false, false, false, false, false, false, false, false, false, false, false, false] rfl rfl (any_of HT_.out (by kernel_rfl)) (fun _ _ _ h => h) (Or.inl ⟨by rfl, ?_⟩) ?_ ?_
                rotate_left
                ·intro w'
                 go_simp
                 first | with_reducible rfl | (rw [if_neg (by have h1_ : (⟨#[10]⟩ : ByteArray).size = 1 := rfl; (try have hc8_ := of_decide_eq_true c8b1); (try have hc9_ := of_decide_eq_true c9b1); (try have hc10_ := of_decide_eq_true c10b1); (try have hc11_ := of_decide_eq_true c11b1); (try have hc13_ := of_decide_eq_true c13b1); (try simp only [ByteArray.size_append, ByteArray.size_extract] at hc8_); (try simp only [ByteArray.size_append, ByteArray.size_extract] at hc9_); (try simp only [ByteArray.size_append, ByteArray.size_extract] at hc10_); (try simp only [ByteArray.size_append, ByteArray.size_extract] at hc11_); (try simp only [ByteArray.size_append, ByteArray.size_extract] at hc13_); omega)]; try with_reducible rfl)
                rotate_left
                ·simp only [Act.put, List.setIfInBounds_toArray, List.set_cons_zero, List.set_cons_succ, i64_w, i32_w]
                 rfl
                refine pure_ (i := 5) (N := some 52) (v := ?_) (a' := ?_) #[true, true, true, true, false, true, false, false, false, false, false, false, false, false, false, false, false, false, false, false, false, false, false, false, false, false, false, false, false, false, false, false, false, false, false, false, false, false] rfl rfl (any_of HT_.out (by kernel_rfl)) (fun _ _ _ h => h) (Or.inl ⟨by rfl, ?_⟩) ?_ ?_
                rotate_left
                ·intro w'
                 go_simp
                 first | with_reducible rfl | (rw [if_neg (by have h1_ : (⟨#[10]⟩ : ByteArray).size = 1 := rfl; (try have hc8_ := of_decide_eq_true c8b1); (try have hc9_ := of_decide_eq_true c9b1); (try have hc10_ := of_decide_eq_true c10b1); (try have hc11_ := of_decide_eq_true c11b1); (try have hc13_ := of_decide_eq_true c13b1); (try simp only [ByteArray.size_append, ByteArray.size_extract] at hc8_); (try simp only [ByteArray.size_append, ByteArray.size_extract] at hc9_); (try simp only [ByteArray.size_append, ByteArray.size_extract] at hc10_); (try simp only [ByteArray.size_append, ByteArray.size_extract] at hc11_); (try simp only [ByteArray.size_append, ByteArray.size_extract] at hc13_); omega)]; try with_reducible rfl)
                rotate_left
                ·simp only [Act.put, List.setIfInBounds_toArray, List.set_cons_zero, List.set_cons_succ, i64_w, i32_w]
                 rfl
                refine pure_ (i := 6) (N := some 53) (v := ?_) (a' := ?_) #[true, true, true, true, false, true, true, false, false, false, false, false, false, false, false, false, false, false, false, false, false, false, false, false, false, false, false, false, false, false, false, false, false, false, false, false, false, false] rfl rfl (any_of HT_.out (by kernel_rfl)) (fun _ _ _ h => h) (Or.inl ⟨by rfl, ?_⟩) ?_ ?_
                rotate_left
                ·intro w'
                 go_simp
                 first | with_reducible rfl | (rw [if_neg (by have h1_ : (⟨#[10]⟩ : ByteArray).size = 1 := rfl; (try have hc8_ := of_decide_eq_true c8b1); (try have hc9_ := of_decide_eq_true c9b1); (try have hc10_ := of_decide_eq_true c10b1); (try have hc11_ := of_decide_eq_true c11b1); (try have hc13_ := of_decide_eq_true c13b1); (try simp only [ByteArray.size_append, ByteArray.size_extract] at hc8_); (try simp only [ByteArray.size_append, ByteArray.size_extract] at hc9_); (try simp only [ByteArray.size_append, ByteArray.size_extract] at hc10_); (try simp only [ByteArray.size_append, ByteArray.size_extract] at hc11_); (try simp only [ByteArray.size_append, ByteArray.size_extract] at hc13_); omega)]; try with_reducible rfl)
                rotate_left
                ·simp only [Act.put, List.setIfInBounds_toArray, List.set_cons_zero, List.set_cons_succ, i64_w, i32_w]
                 rfl
                refine take_ (i := 4) (N := some 51) (v := ?_) (a' := ?_) #[true, true, true, true, true, true, true, false, false, false, false, false, false, false, false, false, false, false, false, false, false, false, false, false, false, false, false, false, false, false, false, false, false, false, false, false, false, false] rfl rfl (take_ofW HT_.out HW_.out (by kernel_rfl)) (fun _ _ _ h => h) (Or.inl ⟨by rfl, ?_⟩) hHeld ?_ ?_
                rotate_left
                ·rintro w' ⟨s0, s1, s2, s3, s4, s5, s6, s7, s8, s9, s10, s11, s12, s13, s14, s15⟩
                 go_simp
                 first | with_reducible rfl | (rw [if_neg (by have h1_ : (⟨#[10]⟩ : ByteArray).size = 1 := rfl; (try have hc8_ := of_decide_eq_true c8b1); (try have hc9_ := of_decide_eq_true c9b1); (try have hc10_ := of_decide_eq_true c10b1); (try have hc11_ := of_decide_eq_true c11b1); (try have hc13_ := of_decide_eq_true c13b1); (try simp only [ByteArray.size_append, ByteArray.size_extract] at hc8_); (try simp only [ByteArray.size_append, ByteArray.size_extract] at hc9_); (try simp only [ByteArray.size_append, ByteArray.size_extract] at hc10_); (try simp only [ByteArray.size_append, ByteArray.size_extract] at hc11_); (try simp only [ByteArray.size_append, ByteArray.size_extract] at hc13_); omega)]; try with_reducible rfl)
                rotate_left
                ·simp only [Act.put, List.setIfInBounds_toArray, List.set_cons_zero, List.set_cons_succ, i64_w, i32_w]
                 rfl
                refine pure_ (i := 7) (N := some 54) (v := ?_) (a' := ?_) #[true, true, true, true, true, true, true, true, false, false, false, false, false, false, false, false, false, false, false, false, false, false, false, false, false, false, false, false, false, false, false, false, false, false, false, false, false, false] rfl rfl (any_of HT_.out (by kernel_rfl)) (fun _ _ _ h => h) (Or.inl ⟨by rfl, ?_⟩) ?_ ?_
                rotate_left
                ·intro w'
                 go_simp
                 first | with_reducible rfl | (rw [if_neg (by have h1_ : (⟨#[10]⟩ : ByteArray).size = 1 := rfl; (try have hc8_ := of_decide_eq_true c8b1); (try have hc9_ := of_decide_eq_true c9b1); (try have hc10_ := of_decide_eq_true c10b1); (try have hc11_ := of_decide_eq_true c11b1); (try have hc13_ := of_decide_eq_true c13b1); (try simp only [ByteArray.size_append, ByteArray.size_extract] at hc8_); (try simp only [ByteArray.size_append, ByteArray.size_extract] at hc9_); (try simp only [ByteArray.size_append, ByteArray.size_extract] at hc10_); (try simp only [ByteArray.size_append, ByteArray.size_extract] at hc11_); (try simp only [ByteArray.size_append, ByteArray.size_extract] at hc13_); omega)]; try with_reducible rfl)
                rotate_left
                ·simp only [Act.put, List.setIfInBounds_toArray, List.set_cons_zero, List.set_cons_succ, i64_w, i32_w]
                 rfl
                refine pure_ (i := 8) (N := some 55) (v := ?_) (a' := ?_) #[true, true, true, true, true, true, true, true, true, false, false, false, false, false, false, false, false, false, false, false, false, false, false, false, false, false, false, false, false, false, false, false, false, false, false, false, false, false] rfl rfl (any_of HT_.out (by kernel_rfl)) (fun _ _ _ h => h) (Or.inl ⟨by rfl, ?_⟩) ?_ ?_
                rotate_left
                ·intro w'
                 go_simp
                 first | with_reducible rfl | (rw [if_neg (by have h1_ : (⟨#[10]⟩ : ByteArray).size = 1 := rfl; (try have hc8_ := of_decide_eq_true c8b1); (try have hc9_ := of_decide_eq_true c9b1); (try have hc10_ := of_decide_eq_true c10b1); (try have hc11_ := of_decide_eq_true c11b1); (try have hc13_ := of_decide_eq_true c13b1); (try simp only [ByteArray.size_append, ByteArray.size_extract] at hc8_); (try simp only [ByteArray.size_append, ByteArray.size_extract] at hc9_); (try simp only [ByteArray.size_append, ByteArray.size_extract] at hc10_); (try simp only [ByteArray.size_append, ByteArray.size_extract] at hc11_); (try simp only [ByteArray.size_append, ByteArray.size_extract] at hc13_); omega)]; try with_reducible rfl)
                rotate_left
                ·simp only [Act.put, List.setIfInBounds_toArray, List.set_cons_zero, List.set_cons_succ, i64_w, i32_w]
                 rfl
                refine pure_ (i := 9) (N := some 56) (v := ?_) (a' := ?_) #[true, true, true, true, true, true, true, true, true, true, false, false, false, false, false, false, false, false, false, false, false, false, false, false, false, false, false, false, false, false, false, false, false, false, false, false, false, false] rfl rfl (any_of HT_.out (by kernel_rfl)) (fun _ _ _ h => h) (Or.inl ⟨by rfl, ?_⟩) ?_ ?_
                rotate_left
                ·intro w'
                 go_simp
                 first | with_reducible rfl | (rw [if_neg (by have h1_ : (⟨#[10]⟩ : ByteArray).size = 1 := rfl; (try have hc8_ := of_decide_eq_true c8b1); (try have hc9_ := of_decide_eq_true c9b1); (try have hc10_ := of_decide_eq_true c10b1); (try have hc11_ := of_decide_eq_true c11b1); (try have hc13_ := of_decide_eq_true c13b1); (try simp only [ByteArray.size_append, ByteArray.size_extract] at hc8_); (try simp only [ByteArray.size_append, ByteArray.size_extract] at hc9_); (try simp only [ByteArray.size_append, ByteArray.size_extract] at hc10_); (try simp only [ByteArray.size_append, ByteArray.size_extract] at hc11_); (try simp only [ByteArray.size_append, ByteArray.size_extract] at hc13_); omega)]; try with_reducible rfl)
                rotate_left
                ·simp only [Act.put, List.setIfInBounds_toArray, List.set_cons_zero, List.set_cons_succ, i64_w, i32_w]
                 rfl
                refine pure_ (i := 10) (N := some 57) (v := ?_) (a' := ?_) #[true, true, true, true, true, true, true, true, true, true, true, false, false, false, false, false, false, false, false, false, false, false, false, false, false, false, false, false, false, false, false, false, false, false, false, false, false, false] rfl rfl (any_of HT_.out (by kernel_rfl)) (fun _ _ _ h => h) (Or.inl ⟨by rfl, ?_⟩) ?_ ?_
                rotate_left
                ·intro w'
                 go_simp
                 first | with_reducible rfl | (rw [if_neg (by have h1_ : (⟨#[10]⟩ : ByteArray).size = 1 := rfl; (try have hc8_ := of_decide_eq_true c8b1); (try have hc9_ := of_decide_eq_true c9b1); (try have hc10_ := of_decide_eq_true c10b1); (try have hc11_ := of_decide_eq_true c11b1); (try have hc13_ := of_decide_eq_true c13b1); (try simp only [ByteArray.size_append, ByteArray.size_extract] at hc8_); (try simp only [ByteArray.size_append, ByteArray.size_extract] at hc9_); (try simp only [ByteArray.size_append, ByteArray.size_extract] at hc10_); (try simp only [ByteArray.size_append, ByteArray.size_extract] at hc11_); (try simp only [ByteArray.size_append, ByteArray.size_extract] at hc13_); omega)]; try with_reducible rfl)
                rotate_left
                ·simp only [Act.put, List.setIfInBounds_toArray, List.set_cons_zero, List.set_cons_succ, i64_w, i32_w]
                 rfl
                refine pure_ (i := 11) (N := some 58) (v := ?_) (a' := ?_) #[true, true, true, true, true, true, true, true, true, true, true, true, false, false, false, false, false, false, false, false, false, false, false, false, false, false, false, false, false, false, false, false, false, false, false, false, false, false] rfl rfl (any_of HT_.out (by kernel_rfl)) (fun _ _ _ h => h) (Or.inl ⟨by rfl, ?_⟩) ?_ ?_
                rotate_left
                ·intro w'
                 go_simp
                 first | with_reducible rfl | (rw [if_neg (by have h1_ : (⟨#[10]⟩ : ByteArray).size = 1 := rfl; (try have hc8_ := of_decide_eq_true c8b1); (try have hc9_ := of_decide_eq_true c9b1); (try have hc10_ := of_decide_eq_true c10b1); (try have hc11_ := of_decide_eq_true c11b1); (try have hc13_ := of_decide_eq_true c13b1); (try simp only [ByteArray.size_append, ByteArray.size_extract] at hc8_); (try simp only [ByteArray.size_append, ByteArray.size_extract] at hc9_); (try simp only [ByteArray.size_append, ByteArray.size_extract] at hc10_); (try simp only [ByteArray.size_append, ByteArray.size_extract] at hc11_); (try simp only [ByteArray.size_append, ByteArray.size_extract] at hc13_); omega)]; try with_reducible rfl)
                rotate_left
                ·simp only [Act.put, List.setIfInBounds_toArray, List.set_cons_zero, List.set_cons_succ, i64_w, i32_w]
                 rfl
                refine pure_ (i := 12) (N := some 59) (v := ?_) (a' := ?_) #[true, true, true, true, true, true, true, true, true, true, true, true, true, false, false, false, false, false, false, false, false, false, false, false, false, false, false, false, false, false, false, false, false, false, false, false, false, false] rfl rfl (any_of HT_.out (by kernel_rfl)) (fun _ _ _ h => h) (Or.inl ⟨by rfl, ?_⟩) ?_ ?_
                rotate_left
                ·intro w'
                 go_simp
                 first | with_reducible rfl | (rw [if_neg (by have h1_ : (⟨#[10]⟩ : ByteArray).size = 1 := rfl; (try have hc8_ := of_decide_eq_true c8b1); (try have hc9_ := of_decide_eq_true c9b1); (try have hc10_ := of_decide_eq_true c10b1); (try have hc11_ := of_decide_eq_true c11b1); (try have hc13_ := of_decide_eq_true c13b1); (try simp only [ByteArray.size_append, ByteArray.size_extract] at hc8_); (try simp only [ByteArray.size_append, ByteArray.size_extract] at hc9_); (try simp only [ByteArray.size_append, ByteArray.size_extract] at hc10_); (try simp only [ByteArray.size_append, ByteArray.size_extract] at hc11_); (try simp only [ByteArray.size_append, ByteArray.size_extract] at hc13_); omega)]; try with_reducible rfl)
                rotate_left
                ·simp only [Act.put, List.setIfInBounds_toArray, List.set_cons_zero, List.set_cons_succ, i64_w, i32_w]
                 rfl
                refine take_ (i := 13) (N := some 60) (v := ?_) (a' := ?_) #[true, true, true, true, true, true, true, true, true, true, true, true, true, true, false, false, false, false, false, false, false, false, false, false, false, false, false, false, false, false, false, false, false, false, false, false, false, false] rfl rfl (take_ofW HT_.out HW_.out (by kernel_rfl)) (fun _ _ _ h => h) (Or.inl ⟨by rfl, ?_⟩) hHeld ?_ ?_
                rotate_left
                ·rintro w' ⟨s0, s1, s2, s3, s4, s5, s6, s7, s8, s9, s10, s11, s12, s13, s14, s15⟩
                 go_simp
                 first | with_reducible rfl | (rw [if_neg (by have h1_ : (⟨#[10]⟩ : ByteArray).size = 1 := rfl; (try have hc8_ := of_decide_eq_true c8b1); (try have hc9_ := of_decide_eq_true c9b1); (try have hc10_ := of_decide_eq_true c10b1); (try have hc11_ := of_decide_eq_true c11b1); (try have hc13_ := of_decide_eq_true c13b1); (try simp only [ByteArray.size_append, ByteArray.size_extract] at hc8_); (try simp only [ByteArray.size_append, ByteArray.size_extract] at hc9_); (try simp only [ByteArray.size_append, ByteArray.size_extract] at hc10_); (try simp only [ByteArray.size_append, ByteArray.size_extract] at hc11_); (try simp only [ByteArray.size_append, ByteArray.size_extract] at hc13_); omega)]; try with_reducible rfl)
                rotate_left
                ·simp only [Act.put, List.setIfInBounds_toArray, List.set_cons_zero, List.set_cons_succ, i64_w, i32_w]
                 rfl
                refine pure_ (i := 14) (N := some 61) (v := ?_) (a' := ?_) #[true, true, true, true, true, true, true, true, true, true, true, true, true, true, true, false, false, false, false, false, false, false, false, false, false, false, false, false, false, false, false, false, false, false, false, false, false, false] rfl rfl (any_of HT_.out (by kernel_rfl)) (fun _ _ _ h => h) (Or.inl ⟨by rfl, ?_⟩) ?_ ?_
                rotate_left
                ·intro w'
                 go_simp
                 first | with_reducible rfl | (rw [if_neg (by have h1_ : (⟨#[10]⟩ : ByteArray).size = 1 := rfl; (try have hc8_ := of_decide_eq_true c8b1); (try have hc9_ := of_decide_eq_true c9b1); (try have hc10_ := of_decide_eq_true c10b1); (try have hc11_ := of_decide_eq_true c11b1); (try have hc13_ := of_decide_eq_true c13b1); (try simp only [ByteArray.size_append, ByteArray.size_extract] at hc8_); (try simp only [ByteArray.size_append, ByteArray.size_extract] at hc9_); (try simp only [ByteArray.size_append, ByteArray.size_extract] at hc10_); (try simp only [ByteArray.size_append, ByteArray.size_extract] at hc11_); (try simp only [ByteArray.size_append, ByteArray.size_extract] at hc13_); omega)]; try with_reducible rfl)
                rotate_left
                ·simp only [Act.put, List.setIfInBounds_toArray, List.set_cons_zero, List.set_cons_succ, i64_w, i32_w]
                 rfl
                refine pure_ (i := 15) (N := some 62) (v := ?_) (a' := ?_) #[true, true, true, true, true, true, true, true, true, true, true, true, true, true, true, true, false, false, false, false, false, false, false, false, false, false, false, false, false, false, false, false, false, false, false, false, false, false] rfl rfl (any_of HT_.out (by kernel_rfl)) (fun _ _ _ h => h) (Or.inl ⟨by rfl, ?_⟩) ?_ ?_
                rotate_left
                ·intro w'
                 go_simp
                 first | with_reducible rfl | (rw [if_neg (by have h1_ : (⟨#[10]⟩ : ByteArray).size = 1 := rfl; (try have hc8_ := of_decide_eq_true c8b1); (try have hc9_ := of_decide_eq_true c9b1); (try have hc10_ := of_decide_eq_true c10b1); (try have hc11_ := of_decide_eq_true c11b1); (try have hc13_ := of_decide_eq_true c13b1); (try simp only [ByteArray.size_append, ByteArray.size_extract] at hc8_); (try simp only [ByteArray.size_append, ByteArray.size_extract] at hc9_); (try simp only [ByteArray.size_append, ByteArray.size_extract] at hc10_); (try simp only [ByteArray.size_append, ByteArray.size_extract] at hc11_); (try simp only [ByteArray.size_append, ByteArray.size_extract] at hc13_); omega)]; try with_reducible rfl)
                rotate_left
                ·simp only [Act.put, List.setIfInBounds_toArray, List.set_cons_zero, List.set_cons_succ, i64_w, i32_w]
                 rfl
                refine pure_ (i := 16) (N := some 63) (v := ?_) (a' := ?_) #[true, true, true, true, true, true, true, true, true, true, true, true, true, true, true, true, true, false, false, false, false, false, false, false, false, false, false, false, false, false, false, false, false, false, false, false, false, false] rfl rfl (any_of HT_.out (by kernel_rfl)) (fun _ _ _ h => h) (Or.inl ⟨by rfl, ?_⟩) ?_ ?_
                rotate_left
                ·intro w'
                 go_simp
                 first | with_reducible rfl | (rw [if_neg (by have h1_ : (⟨#[10]⟩ : ByteArray).size = 1 := rfl; (try have hc8_ := of_decide_eq_true c8b1); (try have hc9_ := of_decide_eq_true c9b1); (try have hc10_ := of_decide_eq_true c10b1); (try have hc11_ := of_decide_eq_true c11b1); (try have hc13_ := of_decide_eq_true c13b1); (try simp only [ByteArray.size_append, ByteArray.size_extract] at hc8_); (try simp only [ByteArray.size_append, ByteArray.size_extract] at hc9_); (try simp only [ByteArray.size_append, ByteArray.size_extract] at hc10_); (try simp only [ByteArray.size_append, ByteArray.size_extract] at hc11_); (try simp only [ByteArray.size_append, ByteArray.size_extract] at hc13_); omega)]; try with_reducible rfl)
                rotate_left
                ·simp only [Act.put, List.setIfInBounds_toArray, List.set_cons_zero, List.set_cons_succ, i64_w, i32_w]
                 rfl
                refine pure_ (i := 17) (N := some 64) (v := ?_) (a' := ?_) #[true, true, true, true, true, true, true, true, true, true, true, true, true, true, true, true, true, true, false, false, false, false, false, false, false, false, false, false, false, false, false, false, false, false, false, false, false, false] rfl rfl (any_of HT_.out (by kernel_rfl)) (fun _ _ _ h => h) (Or.inl ⟨by rfl, ?_⟩) ?_ ?_
                rotate_left
                ·intro w'
                 go_simp
                 first | with_reducible rfl | (rw [if_neg (by have h1_ : (⟨#[10]⟩ : ByteArray).size = 1 := rfl; (try have hc8_ := of_decide_eq_true c8b1); (try have hc9_ := of_decide_eq_true c9b1); (try have hc10_ := of_decide_eq_true c10b1); (try have hc11_ := of_decide_eq_true c11b1); (try have hc13_ := of_decide_eq_true c13b1); (try simp only [ByteArray.size_append, ByteArray.size_extract] at hc8_); (try simp only [ByteArray.size_append, ByteArray.size_extract] at hc9_); (try simp only [ByteArray.size_append, ByteArray.size_extract] at hc10_); (try simp only [ByteArray.size_append, ByteArray.size_extract] at hc11_); (try simp only [ByteArray.size_append, ByteArray.size_extract] at hc13_); omega)]; try with_reducible rfl)
                rotate_left
                ·simp only [Act.put, List.setIfInBounds_toArray, List.set_cons_zero, List.set_cons_succ, i64_w, i32_w]
                 rfl
                refine pure_ (i := 18) (N := some 65) (v := ?_) (a' := ?_) #[true, true, true, true, true, true, true, true, true, true, true, true, true, true, true, true, true, true, true, false, false, false, false, false, false, false, false, false, false, false, false, false, false, false, false, false, false, false] rfl rfl (any_of HT_.out (by kernel_rfl)) (fun _ _ _ h => h) (Or.inl ⟨by rfl, ?_⟩) ?_ ?_
                rotate_left
                ·intro w'
                 go_simp
                 first | with_reducible rfl | (rw [if_neg (by have h1_ : (⟨#[10]⟩ : ByteArray).size = 1 := rfl; (try have hc8_ := of_decide_eq_true c8b1); (try have hc9_ := of_decide_eq_true c9b1); (try have hc10_ := of_decide_eq_true c10b1); (try have hc11_ := of_decide_eq_true c11b1); (try have hc13_ := of_decide_eq_true c13b1); (try simp only [ByteArray.size_append, ByteArray.size_extract] at hc8_); (try simp only [ByteArray.size_append, ByteArray.size_extract] at hc9_); (try simp only [ByteArray.size_append, ByteArray.size_extract] at hc10_); (try simp only [ByteArray.size_append, ByteArray.size_extract] at hc11_); (try simp only [ByteArray.size_append, ByteArray.size_extract] at hc13_); omega)]; try with_reducible rfl)
                rotate_left
                ·simp only [Act.put, List.setIfInBounds_toArray, List.set_cons_zero, List.set_cons_succ, i64_w, i32_w]
                 rfl
                refine pure_ (i := 19) (N := some 66) (v := ?_) (a' := ?_) #[true, true, true, true, true, true, true, true, true, true, true, true, true, true, true, true, true, true, true, true, false, false, false, false, false, false, false, false, false, false, false, false, false, false, false, false, false, false] rfl rfl (any_of HT_.out (by kernel_rfl)) (fun _ _ _ h => h) (Or.inl ⟨by rfl, ?_⟩) ?_ ?_
                rotate_left
                ·intro w'
                 go_simp
                 first | with_reducible rfl | (rw [if_neg (by have h1_ : (⟨#[10]⟩ : ByteArray).size = 1 := rfl; (try have hc8_ := of_decide_eq_true c8b1); (try have hc9_ := of_decide_eq_true c9b1); (try have hc10_ := of_decide_eq_true c10b1); (try have hc11_ := of_decide_eq_true c11b1); (try have hc13_ := of_decide_eq_true c13b1); (try simp only [ByteArray.size_append, ByteArray.size_extract] at hc8_); (try simp only [ByteArray.size_append, ByteArray.size_extract] at hc9_); (try simp only [ByteArray.size_append, ByteArray.size_extract] at hc10_); (try simp only [ByteArray.size_append, ByteArray.size_extract] at hc11_); (try simp only [ByteArray.size_append, ByteArray.size_extract] at hc13_); omega)]; try with_reducible rfl)
                rotate_left
                ·simp only [Act.put, List.setIfInBounds_toArray, List.set_cons_zero, List.set_cons_succ, i64_w, i32_w]
                 rfl
                refine pure_ (i := 21) (N := some 68) (v := ?_) (a' := ?_) #[true, true, true, true, true, true, true, true, true, true, true, true, true, true, true, true, true, true, true, true, false, true, false, false, false, false, false, false, false, false, false, false, false, false, false, false, false, false] rfl rfl (any_of HT_.out (by kernel_rfl)) (fun _ _ _ h => h) (Or.inl ⟨by rfl, ?_⟩) ?_ ?_
                rotate_left
                ·intro w'
                 go_simp
                 first | with_reducible rfl | (rw [if_neg (by have h1_ : (⟨#[10]⟩ : ByteArray).size = 1 := rfl; (try have hc8_ := of_decide_eq_true c8b1); (try have hc9_ := of_decide_eq_true c9b1); (try have hc10_ := of_decide_eq_true c10b1); (try have hc11_ := of_decide_eq_true c11b1); (try have hc13_ := of_decide_eq_true c13b1); (try simp only [ByteArray.size_append, ByteArray.size_extract] at hc8_); (try simp only [ByteArray.size_append, ByteArray.size_extract] at hc9_); (try simp only [ByteArray.size_append, ByteArray.size_extract] at hc10_); (try simp only [ByteArray.size_append, ByteArray.size_extract] at hc11_); (try simp only [ByteArray.size_append, ByteArray.size_extract] at hc13_); omega)]; try with_reducible rfl)
                rotate_left
                ·simp only [Act.put, List.setIfInBounds_toArray, List.set_cons_zero, List.set_cons_succ, i64_w, i32_w]
                 rfl
                refine take_ (i := 20) (N := some 67) (v := ?_) (a' := ?_) #[true, true, true, true, true, true, true, true, true, true, true, true, true, true, true, true, true, true, true, true, true, true, false, false, false, false, false, false, false, false, false, false, false, false, false, false, false, false] rfl rfl (take_ofW HT_.out HW_.out (by kernel_rfl)) (fun _ _ _ h => h) (Or.inl ⟨by rfl, ?_⟩) hHeld ?_ ?_
                rotate_left
                ·rintro w' ⟨s0, s1, s2, s3, s4, s5, s6, s7, s8, s9, s10, s11, s12, s13, s14, s15⟩
                 go_simp
                 first | with_reducible rfl | (rw [if_neg (by have h1_ : (⟨#[10]⟩ : ByteArray).size = 1 := rfl; (try have hc8_ := of_decide_eq_true c8b1); (try have hc9_ := of_decide_eq_true c9b1); (try have hc10_ := of_decide_eq_true c10b1); (try have hc11_ := of_decide_eq_true c11b1); (try have hc13_ := of_decide_eq_true c13b1); (try simp only [ByteArray.size_append, ByteArray.size_extract] at hc8_); (try simp only [ByteArray.size_append, ByteArray.size_extract] at hc9_); (try simp only [ByteArray.size_append, ByteArray.size_extract] at hc10_); (try simp only [ByteArray.size_append, ByteArray.size_extract] at hc11_); (try simp only [ByteArray.size_append, ByteArray.size_extract] at hc13_); omega)]; try with_reducible rfl)
                rotate_left
                ·simp only [Act.put, List.setIfInBounds_toArray, List.set_cons_zero, List.set_cons_succ, i64_w, i32_w]
                 rfl
                refine pure_ (i := 22) (N := some 69) (v := ?_) (a' := ?_) #[true, true, true, true, true, true, true, true, true, true, true, true, true, true, true, true, true, true, true, true, true, true, true, false, false, false, false, false, false, false, false, false, false, false, false, false, false, false] rfl rfl (any_of HT_.out (by kernel_rfl)) (fun _ _ _ h => h) (Or.inl ⟨by rfl, ?_⟩) ?_ ?_
                rotate_left
                ·intro w'
                 go_simp
                 first | with_reducible rfl | (rw [if_neg (by have h1_ : (⟨#[10]⟩ : ByteArray).size = 1 := rfl; (try have hc8_ := of_decide_eq_true c8b1); (try have hc9_ := of_decide_eq_true c9b1); (try have hc10_ := of_decide_eq_true c10b1); (try have hc11_ := of_decide_eq_true c11b1); (try have hc13_ := of_decide_eq_true c13b1); (try simp only [ByteArray.size_append, ByteArray.size_extract] at hc8_); (try simp only [ByteArray.size_append, ByteArray.size_extract] at hc9_); (try simp only [ByteArray.size_append, ByteArray.size_extract] at hc10_); (try simp only [ByteArray.size_append, ByteArray.size_extract] at hc11_); (try simp only [ByteArray.size_append, ByteArray.size_extract] at hc13_); omega)]; try with_reducible rfl)
                rotate_left
                ·simp only [Act.put, List.setIfInBounds_toArray, List.set_cons_zero, List.set_cons_succ, i64_w, i32_w]
                 rfl
                refine pure_ (i := 23) (N := some 70) (v := ?_) (a' := ?_) #[true, true, true, true, true, true, true, true, true, true, true, true, true, true, true, true, true, true, true, true, true, true, true, true, false, false, false, false, false, false, false, false, false, false, false, false, false, false] rfl rfl (any_of HT_.out (by kernel_rfl)) (fun _ _ _ h => h) (Or.inl ⟨by rfl, ?_⟩) ?_ ?_
                rotate_left
                ·intro w'
                 go_simp
                 first | with_reducible rfl | (rw [if_neg (by have h1_ : (⟨#[10]⟩ : ByteArray).size = 1 := rfl; (try have hc8_ := of_decide_eq_true c8b1); (try have hc9_ := of_decide_eq_true c9b1); (try have hc10_ := of_decide_eq_true c10b1); (try have hc11_ := of_decide_eq_true c11b1); (try have hc13_ := of_decide_eq_true c13b1); (try simp only [ByteArray.size_append, ByteArray.size_extract] at hc8_); (try simp only [ByteArray.size_append, ByteArray.size_extract] at hc9_); (try simp only [ByteArray.size_append, ByteArray.size_extract] at hc10_); (try simp only [ByteArray.size_append, ByteArray.size_extract] at hc11_); (try simp only [ByteArray.size_append, ByteArray.size_extract] at hc13_); omega)]; try with_reducible rfl)
                rotate_left
                ·simp only [Act.put, List.setIfInBounds_toArray, List.set_cons_zero, List.set_cons_succ, i64_w, i32_w]
                 rfl
                refine pure_ (i := 24) (N := some 71) (v := ?_) (a' := ?_) #[true, true, true, true, true, true, true, true, true, true, true, true, true, true, true, true, true, true, true, true, true, true, true, true, true, false, false, false, false, false, false, false, false, false, false, false, false, false] rfl rfl (any_of HT_.out (by kernel_rfl)) (fun _ _ _ h => h) (Or.inl ⟨by rfl, ?_⟩) ?_ ?_
                rotate_left
                ·intro w'
                 go_simp
                 first | with_reducible rfl | (rw [if_neg (by have h1_ : (⟨#[10]⟩ : ByteArray).size = 1 := rfl; (try have hc8_ := of_decide_eq_true c8b1); (try have hc9_ := of_decide_eq_true c9b1); (try have hc10_ := of_decide_eq_true c10b1); (try have hc11_ := of_decide_eq_true c11b1); (try have hc13_ := of_decide_eq_true c13b1); (try simp only [ByteArray.size_append, ByteArray.size_extract] at hc8_); (try simp only [ByteArray.size_append, ByteArray.size_extract] at hc9_); (try simp only [ByteArray.size_append, ByteArray.size_extract] at hc10_); (try simp only [ByteArray.size_append, ByteArray.size_extract] at hc11_); (try simp only [ByteArray.size_append, ByteArray.size_extract] at hc13_); omega)]; try with_reducible rfl)
                rotate_left
                ·simp only [Act.put, List.setIfInBounds_toArray, List.set_cons_zero, List.set_cons_succ, i64_w, i32_w]
                 rfl
                refine pure_ (i := 25) (N := some 72) (v := ?_) (a' := ?_) #[true, true, true, true, true, true, true, true, true, true, true, true, true, true, true, true, true, true, true, true, true, true, true, true, true, true, false, false, false, false, false, false, false, false, false, false, false, false] rfl rfl (any_of HT_.out (by kernel_rfl)) (fun _ _ _ h => h) (Or.inl ⟨by rfl, ?_⟩) ?_ ?_
                rotate_left
                ·intro w'
                 go_simp
                 first | with_reducible rfl | (rw [if_neg (by have h1_ : (⟨#[10]⟩ : ByteArray).size = 1 := rfl; (try have hc8_ := of_decide_eq_true c8b1); (try have hc9_ := of_decide_eq_true c9b1); (try have hc10_ := of_decide_eq_true c10b1); (try have hc11_ := of_decide_eq_true c11b1); (try have hc13_ := of_decide_eq_true c13b1); (try simp only [ByteArray.size_append, ByteArray.size_extract] at hc8_); (try simp only [ByteArray.size_append, ByteArray.size_extract] at hc9_); (try simp only [ByteArray.size_append, ByteArray.size_extract] at hc10_); (try simp only [ByteArray.size_append, ByteArray.size_extract] at hc11_); (try simp only [ByteArray.size_append, ByteArray.size_extract] at hc13_); omega)]; try with_reducible rfl)
                rotate_left
                ·simp only [Act.put, List.setIfInBounds_toArray, List.set_cons_zero, List.set_cons_succ, i64_w, i32_w]
                 rfl
                refine pure_ (i := 26) (N := some 73) (v := ?_) (a' := ?_) #[true, true, true, true, true, true, true, true, true, true, true, true, true, true, true, true, true, true, true, true, true, true, true, true, true, true, true, false, false, false, false, false, false, false, false, false, false, false] rfl rfl (any_of HT_.out (by kernel_rfl)) (fun _ _ _ h => h) (Or.inl ⟨by rfl, ?_⟩) ?_ ?_
                rotate_left
                ·intro w'
                 go_simp
                 first | with_reducible rfl | (rw [if_neg (by have h1_ : (⟨#[10]⟩ : ByteArray).size = 1 := rfl; (try have hc8_ := of_decide_eq_true c8b1); (try have hc9_ := of_decide_eq_true c9b1); (try have hc10_ := of_decide_eq_true c10b1); (try have hc11_ := of_decide_eq_true c11b1); (try have hc13_ := of_decide_eq_true c13b1); (try simp only [ByteArray.size_append, ByteArray.size_extract] at hc8_); (try simp only [ByteArray.size_append, ByteArray.size_extract] at hc9_); (try simp only [ByteArray.size_append, ByteArray.size_extract] at hc10_); (try simp only [ByteArray.size_append, ByteArray.size_extract] at hc11_); (try simp only [ByteArray.size_append, ByteArray.size_extract] at hc13_); omega)]; try with_reducible rfl)
                rotate_left
                ·simp only [Act.put, List.setIfInBounds_toArray, List.set_cons_zero, List.set_cons_succ, i64_w, i32_w]
                 rfl
                refine pure_ (i := 28) (N := some 75) (v := ?_) (a' := ?_) #[true, true, true, true, true, true, true, true, true, true, true, true, true, true, true, true, true, true, true, true, true, true, true, true, true, true, true, false, true, false, false, false, false, false, false, false, false, false] rfl rfl (any_of HT_.out (by kernel_rfl)) (fun _ _ _ h => h) (Or.inl ⟨by rfl, ?_⟩) ?_ ?_
                rotate_left
                ·intro w'
                 go_simp
                 first | with_reducible rfl | (rw [if_neg (by have h1_ : (⟨#[10]⟩ : ByteArray).size = 1 := rfl; (try have hc8_ := of_decide_eq_true c8b1); (try have hc9_ := of_decide_eq_true c9b1); (try have hc10_ := of_decide_eq_true c10b1); (try have hc11_ := of_decide_eq_true c11b1); (try have hc13_ := of_decide_eq_true c13b1); (try simp only [ByteArray.size_append, ByteArray.size_extract] at hc8_); (try simp only [ByteArray.size_append, ByteArray.size_extract] at hc9_); (try simp only [ByteArray.size_append, ByteArray.size_extract] at hc10_); (try simp only [ByteArray.size_append, ByteArray.size_extract] at hc11_); (try simp only [ByteArray.size_append, ByteArray.size_extract] at hc13_); omega)]; try with_reducible rfl)
                rotate_left
                ·simp only [Act.put, List.setIfInBounds_toArray, List.set_cons_zero, List.set_cons_succ, i64_w, i32_w]
                 rfl
                refine pure_ (i := 30) (N := some 77) (v := ?_) (a' := ?_) #[true, true, true, true, true, true, true, true, true, true, true, true, true, true, true, true, true, true, true, true, true, true, true, true, true, true, true, false, true, false, true, false, false, false, false, false, false, false] rfl rfl (any_of HT_.out (by kernel_rfl)) (fun _ _ _ h => h) (Or.inl ⟨by rfl, ?_⟩) ?_ ?_
                rotate_left
                ·intro w'
                 go_simp
                 first | with_reducible rfl | (rw [if_neg (by have h1_ : (⟨#[10]⟩ : ByteArray).size = 1 := rfl; (try have hc8_ := of_decide_eq_true c8b1); (try have hc9_ := of_decide_eq_true c9b1); (try have hc10_ := of_decide_eq_true c10b1); (try have hc11_ := of_decide_eq_true c11b1); (try have hc13_ := of_decide_eq_true c13b1); (try simp only [ByteArray.size_append, ByteArray.size_extract] at hc8_); (try simp only [ByteArray.size_append, ByteArray.size_extract] at hc9_); (try simp only [ByteArray.size_append, ByteArray.size_extract] at hc10_); (try simp only [ByteArray.size_append, ByteArray.size_extract] at hc11_); (try simp only [ByteArray.size_append, ByteArray.size_extract] at hc13_); omega)]; try with_reducible rfl)
                rotate_left
                ·simp only [Act.put, List.setIfInBounds_toArray, List.set_cons_zero, List.set_cons_succ, i64_w, i32_w]
                 rfl
                refine pure_ (i := 31) (N := some 78) (v := ?_) (a' := ?_) #[true, true, true, true, true, true, true, true, true, true, true, true, true, true, true, true, true, true, true, true, true, true, true, true, true, true, true, false, true, false, true, true, false, false, false, false, false, false] rfl rfl (any_of HT_.out (by kernel_rfl)) (fun _ _ _ h => h) (Or.inl ⟨by rfl, ?_⟩) ?_ ?_
                rotate_left
                ·intro w'
                 go_simp
                 first | with_reducible rfl | (rw [if_neg (by have h1_ : (⟨#[10]⟩ : ByteArray).size = 1 := rfl; (try have hc8_ := of_decide_eq_true c8b1); (try have hc9_ := of_decide_eq_true c9b1); (try have hc10_ := of_decide_eq_true c10b1); (try have hc11_ := of_decide_eq_true c11b1); (try have hc13_ := of_decide_eq_true c13b1); (try simp only [ByteArray.size_append, ByteArray.size_extract] at hc8_); (try simp only [ByteArray.size_append, ByteArray.size_extract] at hc9_); (try simp only [ByteArray.size_append, ByteArray.size_extract] at hc10_); (try simp only [ByteArray.size_append, ByteArray.size_extract] at hc11_); (try simp only [ByteArray.size_append, ByteArray.size_extract] at hc13_); omega)]; try with_reducible rfl)
                rotate_left
                ·simp only [Act.put, List.setIfInBounds_toArray, List.set_cons_zero, List.set_cons_succ, i64_w, i32_w]
                 rfl
                refine pure_ (i := 32) (N := some 79) (v := ?_) (a' := ?_) #[true, true, true, true, true, true, true, true, true, true, true, true, true, true, true, true, true, true, true, true, true, true, true, true, true, true, true, false, true, false, true, true, true, false, false, false, false, false] rfl rfl (any_of HT_.out (by kernel_rfl)) (fun _ _ _ h => h) (Or.inl ⟨by rfl, ?_⟩) ?_ ?_
                rotate_left
                ·intro w'
                 go_simp
                 first | with_reducible rfl | (rw [if_neg (by have h1_ : (⟨#[10]⟩ : ByteArray).size = 1 := rfl; (try have hc8_ := of_decide_eq_true c8b1); (try have hc9_ := of_decide_eq_true c9b1); (try have hc10_ := of_decide_eq_true c10b1); (try have hc11_ := of_decide_eq_true c11b1); (try have hc13_ := of_decide_eq_true c13b1); (try simp only [ByteArray.size_append, ByteArray.size_extract] at hc8_); (try simp only [ByteArray.size_append, ByteArray.size_extract] at hc9_); (try simp only [ByteArray.size_append, ByteArray.size_extract] at hc10_); (try simp only [ByteArray.size_append, ByteArray.size_extract] at hc11_); (try simp only [ByteArray.size_append, ByteArray.size_extract] at hc13_); omega)]; try with_reducible rfl)
                rotate_left
                ·simp only [Act.put, List.setIfInBounds_toArray, List.set_cons_zero, List.set_cons_succ, i64_w, i32_w]
                 rfl
                refine pure_ (i := 33) (N := some 80) (v := ?_) (a' := ?_) #[true, true, true, true, true, true, true, true, true, true, true, true, true, true, true, true, true, true, true, true, true, true, true, true, true, true, true, false, true, false, true, true, true, true, false, false, false, false] rfl rfl (any_of HT_.out (by kernel_rfl)) (fun _ _ _ h => h) (Or.inl ⟨by rfl, ?_⟩) ?_ ?_
                rotate_left
                ·intro w'
                 go_simp
                 first | with_reducible rfl | (rw [if_neg (by have h1_ : (⟨#[10]⟩ : ByteArray).size = 1 := rfl; (try have hc8_ := of_decide_eq_true c8b1); (try have hc9_ := of_decide_eq_true c9b1); (try have hc10_ := of_decide_eq_true c10b1); (try have hc11_ := of_decide_eq_true c11b1); (try have hc13_ := of_decide_eq_true c13b1); (try simp only [ByteArray.size_append, ByteArray.size_extract] at hc8_); (try simp only [ByteArray.size_append, ByteArray.size_extract] at hc9_); (try simp only [ByteArray.size_append, ByteArray.size_extract] at hc10_); (try simp only [ByteArray.size_append, ByteArray.size_extract] at hc11_); (try simp only [ByteArray.size_append, ByteArray.size_extract] at hc13_); omega)]; try with_reducible rfl)
                rotate_left
                ·simp only [Act.put, List.setIfInBounds_toArray, List.set_cons_zero, List.set_cons_succ, i64_w, i32_w]
                 rfl
                refine take_ (i := 27) (N := some 74) (v := ?_) (a' := ?_) #[true, true, true, true, true, true, true, true, true, true, true, true, true, true, true, true, true, true, true, true, true, true, true, true, true, true, true, true, true, false, true, true, true, true, false, false, false, false] rfl rfl (take_ofW HT_.out HW_.out (by kernel_rfl)) (fun _ _ _ h => h) (Or.inl ⟨by rfl, ?_⟩) hHeld ?_ ?_
                rotate_left
                ·rintro w' ⟨s0, s1, s2, s3, s4, s5, s6, s7, s8, s9, s10, s11, s12, s13, s14, s15⟩
                 go_simp
                 first | with_reducible rfl | (rw [if_neg (by have h1_ : (⟨#[10]⟩ : ByteArray).size = 1 := rfl; (try have hc8_ := of_decide_eq_true c8b1); (try have hc9_ := of_decide_eq_true c9b1); (try have hc10_ := of_decide_eq_true c10b1); (try have hc11_ := of_decide_eq_true c11b1); (try have hc13_ := of_decide_eq_true c13b1); (try simp only [ByteArray.size_append, ByteArray.size_extract] at hc8_); (try simp only [ByteArray.size_append, ByteArray.size_extract] at hc9_); (try simp only [ByteArray.size_append, ByteArray.size_extract] at hc10_); (try simp only [ByteArray.size_append, ByteArray.size_extract] at hc11_); (try simp only [ByteArray.size_append, ByteArray.size_extract] at hc13_); omega)]; try with_reducible rfl)
                rotate_left
                ·simp only [Act.put, List.setIfInBounds_toArray, List.set_cons_zero, List.set_cons_succ, i64_w, i32_w]
                 rfl
                refine one_ (i := 29) (N := some 76) #[true, true, true, true, true, true, true, true, true, true, true, true, true, true, true, true, true, true, true, true, true, true, true, true, true, true, true, true, true, true, true, true, true, true, false, false, false, false] rfl rfl (one_of HT_.out (by kernel_rfl)) (by decide) (fun K hK => ?_)
                refine goes_ Tryd.func19 (by kernel_rfl) rfl #[.int .i64 (wrap64 (Int.tmod a1 10000000))] (by rfl) rfl rfl (by (try simp only [List.map_toArray, List.map_cons, List.map_nil]); first | done | rfl | (simp only [List.length_drop, List.length_take]; rfl)) ?_
                with_reducible refine (pandectref05_Decimal.calls k (wrap64 (Int.tmod a1 10000000)) t234 _ A24.out).mono ?_
                rintro e w' ⟨rfl, ⟨nd, rfl⟩⟩
                refine ⟨_, rfl, ?_⟩
                refine hK.out _ _ ⟨hHeld.1, hHeld.2.1, hHeld.2.2.1, hHeld.2.2.2.1, hHeld.2.2.2.2.1, hHeld.2.2.2.2.2.1, hHeld.2.2.2.2.2.2.1, hHeld.2.2.2.2.2.2.2.1, hHeld.2.2.2.2.2.2.2.2.1, hHeld.2.2.2.2.2.2.2.2.2.1, hHeld.2.2.2.2.2.2.2.2.2.2.1, hHeld.2.2.2.2.2.2.2.2.2.2.2.1, hHeld.2.2.2.2.2.2.2.2.2.2.2.2.1, hHeld.2.2.2.2.2.2.2.2.2.2.2.2.2.1, hHeld.2.2.2.2.2.2.2.2.2.2.2.2.2.2.1, hHeld.2.2.2.2.2.2.2.2.2.2.2.2.2.2.2⟩ (fun hHeld => ?_)
                clear hK K
                refine norm_ (a' := ?_) ?_ ?_
                rotate_left
                ·show Act.put _ (some 76) _ = _
                 simp only [Act.put, List.setIfInBounds_toArray, List.set_cons_zero, List.set_cons_succ, i64_w, i32_w]
                 rfl
                refine pure_ (i := 34) (N := some 81) (v := ?_) (a' := ?_) #[true, true, true, true, true, true, true, true, true, true, true, true, true, true, true, true, true, true, true, true, true, true, true, true, true, true, true, true, true, true, true, true, true, true, true, false, false, false] rfl rfl (any_of HT_.out (by kernel_rfl)) (fun _ _ _ h => h) (Or.inl ⟨by rfl, ?_⟩) ?_ ?_
                rotate_left
                ·intro w'
                 go_simp
                 first | with_reducible rfl | (rw [if_neg (by have h1_ : (⟨#[10]⟩ : ByteArray).size = 1 := rfl; (try have hc8_ := of_decide_eq_true c8b1); (try have hc9_ := of_decide_eq_true c9b1); (try have hc10_ := of_decide_eq_true c10b1); (try have hc11_ := of_decide_eq_true c11b1); (try have hc13_ := of_decide_eq_true c13b1); (try simp only [ByteArray.size_append, ByteArray.size_extract] at hc8_); (try simp only [ByteArray.size_append, ByteArray.size_extract] at hc9_); (try simp only [ByteArray.size_append, ByteArray.size_extract] at hc10_); (try simp only [ByteArray.size_append, ByteArray.size_extract] at hc11_); (try simp only [ByteArray.size_append, ByteArray.size_extract] at hc13_); omega)]; try with_reducible rfl)
                rotate_left
                ·simp only [Act.put, List.setIfInBounds_toArray, List.set_cons_zero, List.set_cons_succ, i64_w, i32_w]
                 rfl
                refine pure_ (i := 35) (N := some 82) (v := ?_) (a' := ?_) #[true, true, true, true, true, true, true, true, true, true, true, true, true, true, true, true, true, true, true, true, true, true, true, true, true, true, true, true, true, true, true, true, true, true, true, true, false, false] rfl rfl (any_of HT_.out (by kernel_rfl)) (fun _ _ _ h => h) (Or.inl ⟨by rfl, ?_⟩) ?_ ?_
                rotate_left
                ·intro w'
                 go_simp
                 first | with_reducible rfl | (rw [if_neg (by have h1_ : (⟨#[10]⟩ : ByteArray).size = 1 := rfl; (try have hc8_ := of_decide_eq_true c8b1); (try have hc9_ := of_decide_eq_true c9b1); (try have hc10_ := of_decide_eq_true c10b1); (try have hc11_ := of_decide_eq_true c11b1); (try have hc13_ := of_decide_eq_true c13b1); (try simp only [ByteArray.size_append, ByteArray.size_extract] at hc8_); (try simp only [ByteArray.size_append, ByteArray.size_extract] at hc9_); (try simp only [ByteArray.size_append, ByteArray.size_extract] at hc10_); (try simp only [ByteArray.size_append, ByteArray.size_extract] at hc11_); (try simp only [ByteArray.size_append, ByteArray.size_extract] at hc13_); omega)]; try with_reducible rfl)
                rotate_left
                ·simp only [Act.put, List.setIfInBounds_toArray, List.set_cons_zero, List.set_cons_succ, i64_w, i32_w]
                 rfl
                refine pure_ (i := 36) (N := some 83) (v := ?_) (a' := ?_) #[true, true, true, true, true, true, true, true, true, true, true, true, true, true, true, true, true, true, true, true, true, true, true, true, true, true, true, true, true, true, true, true, true, true, true, true, true, false] rfl rfl (any_of HT_.out (by kernel_rfl)) (fun _ _ _ h => h) (Or.inl ⟨by rfl, ?_⟩) ?_ ?_
                rotate_left
                ·intro w'
                 go_simp
                 first | with_reducible rfl | (rw [if_neg (by have h1_ : (⟨#[10]⟩ : ByteArray).size = 1 := rfl; (try have hc8_ := of_decide_eq_true c8b1); (try have hc9_ := of_decide_eq_true c9b1); (try have hc10_ := of_decide_eq_true c10b1); (try have hc11_ := of_decide_eq_true c11b1); (try have hc13_ := of_decide_eq_true c13b1); (try simp only [ByteArray.size_append, ByteArray.size_extract] at hc8_); (try simp only [ByteArray.size_append, ByteArray.size_extract] at hc9_); (try simp only [ByteArray.size_append, ByteArray.size_extract] at hc10_); (try simp only [ByteArray.size_append, ByteArray.size_extract] at hc11_); (try simp only [ByteArray.size_append, ByteArray.size_extract] at hc13_); omega)]; try with_reducible rfl)
                rotate_left
                ·simp only [Act.put, List.setIfInBounds_toArray, List.set_cons_zero, List.set_cons_succ, i64_w, i32_w]
                 rfl
                refine pure_ (i := 37) (N := some 6) (v := ?_) (a' := ?_) #[true, true, true, true, true, true, true, true, true, true, true, true, true, true, true, true, true, true, true, true, true, true, true, true, true, true, true, true, true, true, true, true, true, true, true, true, true, true] rfl rfl (any_of HT_.out (by kernel_rfl)) (fun _ _ _ h => h) (Or.inl ⟨by rfl, ?_⟩) ?_ ?_
                rotate_left
                ·intro w'
                 go_simp
                 first | with_reducible rfl | (rw [if_neg (by have h1_ : (⟨#[10]⟩ : ByteArray).size = 1 := rfl; (try have hc8_ := of_decide_eq_true c8b1); (try have hc9_ := of_decide_eq_true c9b1); (try have hc10_ := of_decide_eq_true c10b1); (try have hc11_ := of_decide_eq_true c11b1); (try have hc13_ := of_decide_eq_true c13b1); (try simp only [ByteArray.size_append, ByteArray.size_extract] at hc8_); (try simp only [ByteArray.size_append, ByteArray.size_extract] at hc9_); (try simp only [ByteArray.size_append, ByteArray.size_extract] at hc10_); (try simp only [ByteArray.size_append, ByteArray.size_extract] at hc11_); (try simp only [ByteArray.size_append, ByteArray.size_extract] at hc13_); omega)]; try with_reducible rfl)
                rotate_left
                ·simp only [Act.put, List.setIfInBounds_toArray, List.set_cons_zero, List.set_cons_succ, i64_w, i32_w]
                 rfl
                refine done_ (done_of HT_.out (by kernel_rfl)) ?_
                try go_wp2
                go_ret
                exact ⟨by first | rfl | (simp [errW_none, errW_some] <;> rfl) | (simp only [← hji7]; first | rfl | (simp [errW_none, errW_some] <;> rfl)) | (simp [*, errW_none, errW_some] <;> rfl), by repeat (first | (with_reducible first | exact HB.out | apply below_alloc | apply pw_below_drewN | apply below_drew1) | exact HB.out)⟩
               ·rw [if_neg c23] at H
                exact absurd H (by simp)
              ·rw [if_neg c22] at H
               have c22b0 : (((rd_T30 t225 1).f1).toList == ((⟨#[61, 59, 60, 62, 40, 41, 123, 125, 91, 93, 44, 46, 58]⟩ : ByteArray).extract ((ji7) : Int).toNat ((wrap64 ((ji7) + 1)) : Int).toNat).toList) = false := beq_eq_false_iff_ne.mpr c22
               have c22b1 : (((rd_T30 t225 1).f1).toList != ((⟨#[61, 59, 60, 62, 40, 41, 123, 125, 91, 93, 44, 46, 58]⟩ : ByteArray).extract ((ji7) : Int).toNat ((wrap64 ((ji7) + 1)) : Int).toNat).toList) = true := bne_iff_ne.mpr c22
               obtain rfl := Option.some.inj H
               go_enter Tryd.func10, Tryd.ntmps10
               try go_wp2_with (first | ((with_reducible refine gate_callee (f := 11) rfl ?_); refine goesL_ (some 13) rfl rfl Tryd.func11 (by kernel_rfl) rfl #[] rfl (by (try simp only [List.map_toArray, List.map_cons, List.map_nil]); first | done | rfl | (simp only [List.length_drop, List.length_take]; rfl)) ?_; (with_reducible refine (pandectlaw05_head.calls  true _ A4.out).mono ?_); rintro e w29 ⟨rfl, hb⟩; refine ⟨_, rfl, ?_⟩; have n0_ := Aside0.mk (below_step (by repeat (first | (with_reducible first | exact HB.out | apply below_alloc | apply pw_below_drewN | apply below_drew1) | exact HB.out)) hb); clear HB; have HB := n0_; clear n0_; (try clear hb); (try clear hb2); (try clear hk); (try clear hi)) | ((with_reducible refine gate_callee (f := 18) rfl ?_); refine goesL_ (some 15) rfl rfl Tryd.func18 (by kernel_rfl) rfl #[.string a0] rfl (by (try simp only [List.map_toArray, List.map_cons, List.map_nil]); first | done | rfl | (simp only [List.length_drop, List.length_take]; rfl)) ?_; (with_reducible refine (pandectref05_Name.calls k a0 true _ A5.out).mono ?_); rintro e w' ⟨rfl, ⟨nd, rfl⟩⟩; refine ⟨_, rfl, ?_⟩) | ((with_reducible refine gate_callee (f := 19) rfl ?_); refine goesL_ (some 34) rfl rfl Tryd.func19 (by kernel_rfl) rfl #[.int .i64 (wrap64 (Int.tmod a1 10000000))] rfl (by (try simp only [List.map_toArray, List.map_cons, List.map_nil]); first | done | rfl | (simp only [List.length_drop, List.length_take]; rfl)) ?_; (with_reducible refine (pandectref05_Decimal.calls k (wrap64 (Int.tmod a1 10000000)) t224 _ A12.out).mono ?_); rintro e w' ⟨rfl, ⟨nd, rfl⟩⟩; refine ⟨_, rfl, ?_⟩) | ((with_reducible refine gate_callee (f := 12) rfl ?_); refine goesL_ (some 36) rfl rfl Tryd.func12 (by kernel_rfl) rfl #[.string ((a0 ++ ((⟨#[61, 59, 60, 62, 40, 41, 123, 125, 91, 93, 44, 46, 58]⟩ : ByteArray).extract ((ji7) : Int).toNat ((wrap64 ((ji7) + 1)) : Int).toNat)) ++ t224)] rfl (by (try simp only [List.map_toArray, List.map_cons, List.map_nil]); first | done | (simp only [hji7]; rfl) | rfl | (simp only [List.length_drop, List.length_take]; rfl)) ?_; (with_reducible refine (lexer_Lex.calls ((a0 ++ ((⟨#[61, 59, 60, 62, 40, 41, 123, 125, 91, 93, 44, 46, 58]⟩ : ByteArray).extract ((ji7) : Int).toNat ((wrap64 ((ji7) + 1)) : Int).toNat)) ++ t224) t225 t226 t227 _ A14.out).mono ?_); rintro e w30 ⟨v228, rfl, ho0, hb⟩; refine ⟨_, rfl, ?_⟩; have n0_ := Aside0.mk (Kd.R_lower ho0 (below_size (by repeat (first | (with_reducible first | exact HB.out | apply below_alloc | apply pw_below_drewN | apply below_drew1) | exact HB.out)))); have n1_ := Aside0.mk (below_step (by repeat (first | (with_reducible first | exact HB.out | apply below_alloc | apply pw_below_drewN | apply below_drew1) | exact HB.out)) hb); clear HB; have HO229 := n0_; have HB := n1_; clear n0_ n1_; (try clear hb); (try clear hb2); (try clear hk); (try clear hi); (try clear ho0); obtain ⟨Ao31, co31, eo31⟩ := Kd.R_slice HO229.out; subst eo31))
               have n0_ := Aside0.mk (Kd.R_drew HO229.out)
               have n1_ := Aside0.mk (below_drew1 HB.out)
               clear HO229
               clear HB
               have HO229 := n0_
               have HB := n1_
               clear n0_ n1_
               have p230 : 0 ≤ (0 : Int) := (by omega)
               have q230 : 0 < (t225.length : Int) := of_decide_eq_true (by first | (with_reducible assumption) | assumption)
               obtain ⟨ad230, e230, hx230_0, hx230_1, hx230_2, hx230_3⟩ := at_T30 (Kd.R_reads' HO229.out).2.2 0 p230 q230
               cases e230
               have qi230 : (0 < t225.length) = True := eq_true (by omega)
               (try rw [show ((0 : Int)).toNat = 0 from rfl] at hx230_0)
               (try rw [show 0 * 4 = 0 from rfl] at hx230_0)
               (try rw [Addr.add_zero'] at hx230_0)
               (try rw [show ((0 : Int)).toNat = 0 from rfl] at hx230_1)
               (try rw [show 0 * 4 = 0 from rfl] at hx230_1)
               (try rw [Addr.add_zero'] at hx230_1)
               (try rw [show ((0 : Int)).toNat = 0 from rfl] at hx230_2)
               (try rw [show 0 * 4 = 0 from rfl] at hx230_2)
               (try rw [Addr.add_zero'] at hx230_2)
               (try rw [show ((0 : Int)).toNat = 0 from rfl] at hx230_3)
               (try rw [show 0 * 4 = 0 from rfl] at hx230_3)
               (try rw [Addr.add_zero'] at hx230_3)
               replace p230 := eq_true p230
               replace q230 := eq_true q230
               have p231 : 0 ≤ (1 : Int) := (by omega)
               have q231 : 1 < (t225.length : Int) := of_decide_eq_true (by first | (with_reducible assumption) | assumption)
               obtain ⟨ad231, e231, hx231_0, hx231_1, hx231_2, hx231_3⟩ := at_T30 (Kd.R_reads' HO229.out).2.2 1 p231 q231
               obtain rfl : ad230 = ad231 := (by injection e231)
               (try simp only [show (1 : Int).toNat = 1 from rfl, Nat.reduceMul, Nat.reduceEqDiff, Go.Addr.add, ↓reduceIte] at hx231_0)
               (try simp only [show (1 : Int).toNat = 1 from rfl, Nat.reduceMul, Nat.reduceEqDiff, Go.Addr.add, ↓reduceIte] at hx231_1)
               (try simp only [show (1 : Int).toNat = 1 from rfl, Nat.reduceMul, Nat.reduceEqDiff, Go.Addr.add, ↓reduceIte] at hx231_2)
               (try simp only [show (1 : Int).toNat = 1 from rfl, Nat.reduceMul, Nat.reduceEqDiff, Go.Addr.add, ↓reduceIte] at hx231_3)
               have qi231 : (1 < t225.length) = True := eq_true (by omega)
               (try rw [show ((1 : Int)).toNat = 1 from rfl] at hx231_0)
               (try rw [show 1 * 4 = 4 from rfl] at hx231_0)
               (try rw [show ((1 : Int)).toNat = 1 from rfl] at hx231_1)
               (try rw [show 1 * 4 = 4 from rfl] at hx231_1)
               (try rw [show ((1 : Int)).toNat = 1 from rfl] at hx231_2)
               (try rw [show 1 * 4 = 4 from rfl] at hx231_2)
               (try rw [show ((1 : Int)).toNat = 1 from rfl] at hx231_3)
               (try rw [show 1 * 4 = 4 from rfl] at hx231_3)
               replace p231 := eq_true p231
               replace q231 := eq_true q231
               have p232 : 0 ≤ (1 : Int) := (by omega)
               have q232 : 1 < (t225.length : Int) := of_decide_eq_true (by first | (with_reducible assumption) | assumption)
               obtain ⟨ad232, e232, hx232_0, hx232_1, hx232_2, hx232_3⟩ := at_T30 (Kd.R_reads' HO229.out).2.2 1 p232 q232
               obtain rfl : ad230 = ad232 := (by injection e232)
               (try simp only [show (1 : Int).toNat = 1 from rfl, Nat.reduceMul, Nat.reduceEqDiff, Go.Addr.add, ↓reduceIte] at hx232_0)
               (try simp only [show (1 : Int).toNat = 1 from rfl, Nat.reduceMul, Nat.reduceEqDiff, Go.Addr.add, ↓reduceIte] at hx232_1)
               (try simp only [show (1 : Int).toNat = 1 from rfl, Nat.reduceMul, Nat.reduceEqDiff, Go.Addr.add, ↓reduceIte] at hx232_2)
               (try simp only [show (1 : Int).toNat = 1 from rfl, Nat.reduceMul, Nat.reduceEqDiff, Go.Addr.add, ↓reduceIte] at hx232_3)
               have qi232 : (1 < t225.length) = True := eq_true (by omega)
               (try rw [show ((1 : Int)).toNat = 1 from rfl] at hx232_0)
               (try rw [show 1 * 4 = 4 from rfl] at hx232_0)
               (try rw [show ((1 : Int)).toNat = 1 from rfl] at hx232_1)
               (try rw [show 1 * 4 = 4 from rfl] at hx232_1)
               (try rw [show ((1 : Int)).toNat = 1 from rfl] at hx232_2)
               (try rw [show 1 * 4 = 4 from rfl] at hx232_2)
               (try rw [show ((1 : Int)).toNat = 1 from rfl] at hx232_3)
               (try rw [show 1 * 4 = 4 from rfl] at hx232_3)
               replace p232 := eq_true p232
               replace q232 := eq_true q232
               refine start_ (n := 38) (S := fun w' => w'.cell? ad230 = some (.int .i64 ((rd_T30 t225 0).f0)) ∧ w'.cell? ⟨ad230.block, ad230.off + 1, none⟩ = some (.string ((rd_T30 t225 0).f1)) ∧ w'.cell? ⟨ad230.block, ad230.off + 2, none⟩ = some (.int .i64 ((rd_T30 t225 0).f2)) ∧ w'.cell? ⟨ad230.block, ad230.off + 3, none⟩ = some (.int .i64 ((rd_T30 t225 0).f3)) ∧ w'.cell? ⟨ad230.block, ad230.off + 4, none⟩ = some (.int .i64 ((rd_T30 t225 1).f0)) ∧ w'.cell? ⟨ad230.block, ad230.off + 4 + 1, none⟩ = some (.string ((rd_T30 t225 1).f1)) ∧ w'.cell? ⟨ad230.block, ad230.off + 4 + 2, none⟩ = some (.int .i64 ((rd_T30 t225 1).f2)) ∧ w'.cell? ⟨ad230.block, ad230.off + 4 + 3, none⟩ = some (.int .i64 ((rd_T30 t225 1).f3)) ∧ w'.cell? ⟨ad230.block, ad230.off + 4, none⟩ = some (.int .i64 ((rd_T30 t225 1).f0)) ∧ w'.cell? ⟨ad230.block, ad230.off + 4 + 1, none⟩ = some (.string ((rd_T30 t225 1).f1)) ∧ w'.cell? ⟨ad230.block, ad230.off + 4 + 2, none⟩ = some (.int .i64 ((rd_T30 t225 1).f2)) ∧ w'.cell? ⟨ad230.block, ad230.off + 4 + 3, none⟩ = some (.int .i64 ((rd_T30 t225 1).f3))) (ds := []) #[false, false, false, false, false, false, false, false, false, false, false, false, false, false, false, false, false, false, false, false, false, false, false, false, false, false, false, false, false, false, false, false, false, false, false, false, false, false] (by kernel_rfl) rfl rfl ⟨hx230_0, hx230_1, hx230_2, hx230_3, hx231_0, hx231_1, hx231_2, hx231_3, hx232_0, hx232_1, hx232_2, hx232_3⟩ (fun hHeld => ?_); refine with_tabW pandectlaw05_LexerWords.tab9 pandectlaw05_LexerWords.bits9 (fun HT_ HW_ => ?_)
               generalize w30.drew = w32 at HO229 HB hx230_0 hx230_1 hx230_2 hx230_3 hx231_0 hx231_1 hx231_2 hx231_3 hx232_0 hx232_1 hx232_2 hx232_3 hHeld ⊢
               refine pure_ (i := 0) (N := some 47) (v := ?_) (a' := ?_) #[true, false, false, false, false, false, false, false, false, false, false, false, false, false, false, false, false, false, false, false, false, false, false, false, false, false, false, false, false, false, false, false, false, false, false, false, false, false] rfl rfl (any_of HT_.out (by kernel_rfl)) (fun _ _ _ h => h) (Or.inl ⟨by rfl, ?_⟩) ?_ ?_
               rotate_left
               ·intro w'
                go_simp
                first | with_reducible rfl | (rw [if_neg (by have h1_ : (⟨#[10]⟩ : ByteArray).size = 1 := rfl; (try have hc8_ := of_decide_eq_true c8b1); (try have hc9_ := of_decide_eq_true c9b1); (try have hc10_ := of_decide_eq_true c10b1); (try have hc11_ := of_decide_eq_true c11b1); (try have hc13_ := of_decide_eq_true c13b1); (try simp only [ByteArray.size_append, ByteArray.size_extract] at hc8_); (try simp only [ByteArray.size_append, ByteArray.size_extract] at hc9_); (try simp only [ByteArray.size_append, ByteArray.size_extract] at hc10_); (try simp only [ByteArray.size_append, ByteArray.size_extract] at hc11_); (try simp only [ByteArray.size_append, ByteArray.size_extract] at hc13_); omega)]; try with_reducible rfl)
               rotate_left
               ·simp only [Act.put, List.setIfInBounds_toArray, List.set_cons_zero, List.set_cons_succ, i64_w, i32_w]
                rfl
               refine pure_ (i := 1) (N := some 48) (v := ?_) (a' := ?_) #[true, true, false, false, false, false, false, false, false, false, false, false, false, false, false, false, false, false, false, false, false, false, false, false, false, false, false, false, false, false, false, false, false, false, false, false, false, false] rfl rfl (any_of HT_.out (by kernel_rfl)) (fun _ _ _ h => h) (Or.inl ⟨by rfl, ?_⟩) ?_ ?_
               rotate_left
               ·intro w'
                go_simp
                first | with_reducible rfl | (rw [if_neg (by have h1_ : (⟨#[10]⟩ : ByteArray).size = 1 := rfl; (try have hc8_ := of_decide_eq_true c8b1); (try have hc9_ := of_decide_eq_true c9b1); (try have hc10_ := of_decide_eq_true c10b1); (try have hc11_ := of_decide_eq_true c11b1); (try have hc13_ := of_decide_eq_true c13b1); (try simp only [ByteArray.size_append, ByteArray.size_extract] at hc8_); (try simp only [ByteArray.size_append, ByteArray.size_extract] at hc9_); (try simp only [ByteArray.size_append, ByteArray.size_extract] at hc10_); (try simp only [ByteArray.size_append, ByteArray.size_extract] at hc11_); (try simp only [ByteArray.size_append, ByteArray.size_extract] at hc13_); omega)]; try with_reducible rfl)
               rotate_left
               ·simp only [Act.put, List.setIfInBounds_toArray, List.set_cons_zero, List.set_cons_succ, i64_w, i32_w]
                rfl
               refine pure_ (i := 2) (N := some 49) (v := ?_) (a' := ?_) #[true, true, true, false, false, false, false, false, false, false, false, false, false, false, false, false, false, false, false, false, false, false, false, false, false, false, false, false, false, false, false, false, false, false, false, false, false, false] rfl rfl (any_of HT_.out (by kernel_rfl)) (fun _ _ _ h => h) (Or.inl ⟨by rfl, ?_⟩) ?_ ?_
               rotate_left
               ·intro w'
                go_simp
                first | with_reducible rfl | (rw [if_neg (by have h1_ : (⟨#[10]⟩ : ByteArray).size = 1 := rfl; (try have hc8_ := of_decide_eq_true c8b1); (try have hc9_ := of_decide_eq_true c9b1); (try have hc10_ := of_decide_eq_true c10b1); (try have hc11_ := of_decide_eq_true c11b1); (try have hc13_ := of_decide_eq_true c13b1); (try simp only [ByteArray.size_append, ByteArray.size_extract] at hc8_); (try simp only [ByteArray.size_append, ByteArray.size_extract] at hc9_); (try simp only [ByteArray.size_append, ByteArray.size_extract] at hc10_); (try simp only [ByteArray.size_append, ByteArray.size_extract] at hc11_); (try simp only [ByteArray.size_append, ByteArray.size_extract] at hc13_); omega)]; try with_reducible rfl)
               rotate_left
               ·simp only [Act.put, List.setIfInBounds_toArray, List.set_cons_zero, List.set_cons_succ, i64_w, i32_w]
                rfl
               refine pure_ (i := 3) (N := some 50) (v := ?_) (a' := ?_) #[true, true, true, true, false, false, false, false, false, false, false, false, false, false, false, false, false, false, false, false, false, false, false, false, false, false, false, false, false, false, false, false, false, false, false, false, false, false] rfl rfl (any_of HT_.out (by kernel_rfl)) (fun _ _ _ h => h) (Or.inl ⟨by rfl, ?_⟩) ?_ ?_
               rotate_left
               ·intro w'
                go_simp
                first | with_reducible rfl | (rw [if_neg (by have h1_ : (⟨#[10]⟩ : ByteArray).size = 1 := rfl; (try have hc8_ := of_decide_eq_true c8b1); (try have hc9_ := of_decide_eq_true c9b1); (try have hc10_ := of_decide_eq_true c10b1); (try have hc11_ := of_decide_eq_true c11b1); (try have hc13_ := of_decide_eq_true c13b1); (try simp only [ByteArray.size_append, ByteArray.size_extract] at hc8_); (try simp only [ByteArray.size_append, ByteArray.size_extract] at hc9_); (try simp only [ByteArray.size_append, ByteArray.size_extract] at hc10_); (try simp only [ByteArray.size_append, ByteArray.size_extract] at hc11_); (try simp only [ByteArray.size_append, ByteArray.size_extract] at hc13_); omega)]; try with_reducible rfl)
               rotate_left
               ·simp only [Act.put, List.setIfInBounds_toArray, List.set_cons_zero, List.set_cons_succ, i64_w, i32_w]
                rfl
               refine pure_ (i := 5) (N := some 52) (v := ?_) (a' := ?_) #[true, true, true, true, false, true, false, false, false, false, false, false, false, false, false, false, false, false, false, false, false, false, false, false, false, false, false, false, false, false, false, false, false, false, false, false, false, false] rfl rfl (any_of HT_.out (by kernel_rfl)) (fun _ _ _ h => h) (Or.inl ⟨by rfl, ?_⟩) ?_ ?_
               rotate_left
               ·intro w'
                go_simp
                first | with_reducible rfl | (rw [if_neg (by have h1_ : (⟨#[10]⟩ : ByteArray).size = 1 := rfl; (try have hc8_ := of_decide_eq_true c8b1); (try have hc9_ := of_decide_eq_true c9b1); (try have hc10_ := of_decide_eq_true c10b1); (try have hc11_ := of_decide_eq_true c11b1); (try have hc13_ := of_decide_eq_true c13b1); (try simp only [ByteArray.size_append, ByteArray.size_extract] at hc8_); (try simp only [ByteArray.size_append, ByteArray.size_extract] at hc9_); (try simp only [ByteArray.size_append, ByteArray.size_extract] at hc10_); (try simp only [ByteArray.size_append, ByteArray.size_extract] at hc11_); (try simp only [ByteArray.size_append, ByteArray.size_extract] at hc13_); omega)]; try with_reducible rfl)
               rotate_left
               ·simp only [Act.put, List.setIfInBounds_toArray, List.set_cons_zero, List.set_cons_succ, i64_w, i32_w]
                rfl
               refine pure_ (i := 6) (N := some 53) (v := ?_) (a' := ?_) #[true, true, true, true, false, true, true, false, false, false, false, false, false, false, false, false, false, false, false, false, false, false, false, false, false, false, false, false, false, false, false, false, false, false, false, false, false, false] rfl rfl (any_of HT_.out (by kernel_rfl)) (fun _ _ _ h => h) (Or.inl ⟨by rfl, ?_⟩) ?_ ?_
               rotate_left
               ·intro w'
                go_simp
                first | with_reducible rfl | (rw [if_neg (by have h1_ : (⟨#[10]⟩ : ByteArray).size = 1 := rfl; (try have hc8_ := of_decide_eq_true c8b1); (try have hc9_ := of_decide_eq_true c9b1); (try have hc10_ := of_decide_eq_true c10b1); (try have hc11_ := of_decide_eq_true c11b1); (try have hc13_ := of_decide_eq_true c13b1); (try simp only [ByteArray.size_append, ByteArray.size_extract] at hc8_); (try simp only [ByteArray.size_append, ByteArray.size_extract] at hc9_); (try simp only [ByteArray.size_append, ByteArray.size_extract] at hc10_); (try simp only [ByteArray.size_append, ByteArray.size_extract] at hc11_); (try simp only [ByteArray.size_append, ByteArray.size_extract] at hc13_); omega)]; try with_reducible rfl)
               rotate_left
               ·simp only [Act.put, List.setIfInBounds_toArray, List.set_cons_zero, List.set_cons_succ, i64_w, i32_w]
                rfl
               refine take_ (i := 4) (N := some 51) (v := ?_) (a' := ?_) #[true, true, true, true, true, true, true, false, false, false, false, false, false, false, false, false, false, false, false, false, false, false, false, false, false, false, false, false, false, false, false, false, false, false, false, false, false, false] rfl rfl (take_ofW HT_.out HW_.out (by kernel_rfl)) (fun _ _ _ h => h) (Or.inl ⟨by rfl, ?_⟩) hHeld ?_ ?_
               rotate_left
               ·rintro w' ⟨s0, s1, s2, s3, s4, s5, s6, s7, s8, s9, s10, s11⟩
                go_simp
                first | with_reducible rfl | (rw [if_neg (by have h1_ : (⟨#[10]⟩ : ByteArray).size = 1 := rfl; (try have hc8_ := of_decide_eq_true c8b1); (try have hc9_ := of_decide_eq_true c9b1); (try have hc10_ := of_decide_eq_true c10b1); (try have hc11_ := of_decide_eq_true c11b1); (try have hc13_ := of_decide_eq_true c13b1); (try simp only [ByteArray.size_append, ByteArray.size_extract] at hc8_); (try simp only [ByteArray.size_append, ByteArray.size_extract] at hc9_); (try simp only [ByteArray.size_append, ByteArray.size_extract] at hc10_); (try simp only [ByteArray.size_append, ByteArray.size_extract] at hc11_); (try simp only [ByteArray.size_append, ByteArray.size_extract] at hc13_); omega)]; try with_reducible rfl)
               rotate_left
               ·simp only [Act.put, List.setIfInBounds_toArray, List.set_cons_zero, List.set_cons_succ, i64_w, i32_w]
                rfl
               refine pure_ (i := 7) (N := some 54) (v := ?_) (a' := ?_) #[true, true, true, true, true, true, true, true, false, false, false, false, false, false, false, false, false, false, false, false, false, false, false, false, false, false, false, false, false, false, false, false, false, false, false, false, false, false] rfl rfl (any_of HT_.out (by kernel_rfl)) (fun _ _ _ h => h) (Or.inl ⟨by rfl, ?_⟩) ?_ ?_
               rotate_left
               ·intro w'
                go_simp
                first | with_reducible rfl | (rw [if_neg (by have h1_ : (⟨#[10]⟩ : ByteArray).size = 1 := rfl; (try have hc8_ := of_decide_eq_true c8b1); (try have hc9_ := of_decide_eq_true c9b1); (try have hc10_ := of_decide_eq_true c10b1); (try have hc11_ := of_decide_eq_true c11b1); (try have hc13_ := of_decide_eq_true c13b1); (try simp only [ByteArray.size_append, ByteArray.size_extract] at hc8_); (try simp only [ByteArray.size_append, ByteArray.size_extract] at hc9_); (try simp only [ByteArray.size_append, ByteArray.size_extract] at hc10_); (try simp only [ByteArray.size_append, ByteArray.size_extract] at hc11_); (try simp only [ByteArray.size_append, ByteArray.size_extract] at hc13_); omega)]; try with_reducible rfl)
               rotate_left
               ·simp only [Act.put, List.setIfInBounds_toArray, List.set_cons_zero, List.set_cons_succ, i64_w, i32_w]
                rfl
               refine pure_ (i := 8) (N := some 55) (v := ?_) (a' := ?_) #[true, true, true, true, true, true, true, true, true, false, false, false, false, false, false, false, false, false, false, false, false, false, false, false, false, false, false, false, false, false, false, false, false, false, false, false, false, false] rfl rfl (any_of HT_.out (by kernel_rfl)) (fun _ _ _ h => h) (Or.inl ⟨by rfl, ?_⟩) ?_ ?_
               rotate_left
               ·intro w'
                go_simp
                first | with_reducible rfl | (rw [if_neg (by have h1_ : (⟨#[10]⟩ : ByteArray).size = 1 := rfl; (try have hc8_ := of_decide_eq_true c8b1); (try have hc9_ := of_decide_eq_true c9b1); (try have hc10_ := of_decide_eq_true c10b1); (try have hc11_ := of_decide_eq_true c11b1); (try have hc13_ := of_decide_eq_true c13b1); (try simp only [ByteArray.size_append, ByteArray.size_extract] at hc8_); (try simp only [ByteArray.size_append, ByteArray.size_extract] at hc9_); (try simp only [ByteArray.size_append, ByteArray.size_extract] at hc10_); (try simp only [ByteArray.size_append, ByteArray.size_extract] at hc11_); (try simp only [ByteArray.size_append, ByteArray.size_extract] at hc13_); omega)]; try with_reducible rfl)
               rotate_left
               ·simp only [Act.put, List.setIfInBounds_toArray, List.set_cons_zero, List.set_cons_succ, i64_w, i32_w]
                rfl
               refine pure_ (i := 9) (N := some 56) (v := ?_) (a' := ?_) #[true, true, true, true, true, true, true, true, true, true, false, false, false, false, false, false, false, false, false, false, false, false, false, false, false, false, false, false, false, false, false, false, false, false, false, false, false, false] rfl rfl (any_of HT_.out (by kernel_rfl)) (fun _ _ _ h => h) (Or.inl ⟨by rfl, ?_⟩) ?_ ?_
               rotate_left
               ·intro w'
                go_simp
                first | with_reducible rfl | (rw [if_neg (by have h1_ : (⟨#[10]⟩ : ByteArray).size = 1 := rfl; (try have hc8_ := of_decide_eq_true c8b1); (try have hc9_ := of_decide_eq_true c9b1); (try have hc10_ := of_decide_eq_true c10b1); (try have hc11_ := of_decide_eq_true c11b1); (try have hc13_ := of_decide_eq_true c13b1); (try simp only [ByteArray.size_append, ByteArray.size_extract] at hc8_); (try simp only [ByteArray.size_append, ByteArray.size_extract] at hc9_); (try simp only [ByteArray.size_append, ByteArray.size_extract] at hc10_); (try simp only [ByteArray.size_append, ByteArray.size_extract] at hc11_); (try simp only [ByteArray.size_append, ByteArray.size_extract] at hc13_); omega)]; try with_reducible rfl)
               rotate_left
               ·simp only [Act.put, List.setIfInBounds_toArray, List.set_cons_zero, List.set_cons_succ, i64_w, i32_w]
                rfl
               refine pure_ (i := 10) (N := some 57) (v := ?_) (a' := ?_) #[true, true, true, true, true, true, true, true, true, true, true, false, false, false, false, false, false, false, false, false, false, false, false, false, false, false, false, false, false, false, false, false, false, false, false, false, false, false] rfl rfl (any_of HT_.out (by kernel_rfl)) (fun _ _ _ h => h) (Or.inl ⟨by rfl, ?_⟩) ?_ ?_
               rotate_left
               ·intro w'
                go_simp
                first | with_reducible rfl | (rw [if_neg (by have h1_ : (⟨#[10]⟩ : ByteArray).size = 1 := rfl; (try have hc8_ := of_decide_eq_true c8b1); (try have hc9_ := of_decide_eq_true c9b1); (try have hc10_ := of_decide_eq_true c10b1); (try have hc11_ := of_decide_eq_true c11b1); (try have hc13_ := of_decide_eq_true c13b1); (try simp only [ByteArray.size_append, ByteArray.size_extract] at hc8_); (try simp only [ByteArray.size_append, ByteArray.size_extract] at hc9_); (try simp only [ByteArray.size_append, ByteArray.size_extract] at hc10_); (try simp only [ByteArray.size_append, ByteArray.size_extract] at hc11_); (try simp only [ByteArray.size_append, ByteArray.size_extract] at hc13_); omega)]; try with_reducible rfl)
               rotate_left
               ·simp only [Act.put, List.setIfInBounds_toArray, List.set_cons_zero, List.set_cons_succ, i64_w, i32_w]
                rfl
               refine pure_ (i := 11) (N := some 58) (v := ?_) (a' := ?_) #[true, true, true, true, true, true, true, true, true, true, true, true, false, false, false, false, false, false, false, false, false, false, false, false, false, false, false, false, false, false, false, false, false, false, false, false, false, false] rfl rfl (any_of HT_.out (by kernel_rfl)) (fun _ _ _ h => h) (Or.inl ⟨by rfl, ?_⟩) ?_ ?_
               rotate_left
               ·intro w'
                go_simp
                first | with_reducible rfl | (rw [if_neg (by have h1_ : (⟨#[10]⟩ : ByteArray).size = 1 := rfl; (try have hc8_ := of_decide_eq_true c8b1); (try have hc9_ := of_decide_eq_true c9b1); (try have hc10_ := of_decide_eq_true c10b1); (try have hc11_ := of_decide_eq_true c11b1); (try have hc13_ := of_decide_eq_true c13b1); (try simp only [ByteArray.size_append, ByteArray.size_extract] at hc8_); (try simp only [ByteArray.size_append, ByteArray.size_extract] at hc9_); (try simp only [ByteArray.size_append, ByteArray.size_extract] at hc10_); (try simp only [ByteArray.size_append, ByteArray.size_extract] at hc11_); (try simp only [ByteArray.size_append, ByteArray.size_extract] at hc13_); omega)]; try with_reducible rfl)
               rotate_left
               ·simp only [Act.put, List.setIfInBounds_toArray, List.set_cons_zero, List.set_cons_succ, i64_w, i32_w]
                rfl
               refine pure_ (i := 12) (N := some 59) (v := ?_) (a' := ?_) #[true, true, true, true, true, true, true, true, true, true, true, true, true, false, false, false, false, false, false, false, false, false, false, false, false, false, false, false, false, false, false, false, false, false, false, false, false, false] rfl rfl (any_of HT_.out (by kernel_rfl)) (fun _ _ _ h => h) (Or.inl ⟨by rfl, ?_⟩) ?_ ?_
               rotate_left
               ·intro w'
                go_simp
                first | with_reducible rfl | (rw [if_neg (by have h1_ : (⟨#[10]⟩ : ByteArray).size = 1 := rfl; (try have hc8_ := of_decide_eq_true c8b1); (try have hc9_ := of_decide_eq_true c9b1); (try have hc10_ := of_decide_eq_true c10b1); (try have hc11_ := of_decide_eq_true c11b1); (try have hc13_ := of_decide_eq_true c13b1); (try simp only [ByteArray.size_append, ByteArray.size_extract] at hc8_); (try simp only [ByteArray.size_append, ByteArray.size_extract] at hc9_); (try simp only [ByteArray.size_append, ByteArray.size_extract] at hc10_); (try simp only [ByteArray.size_append, ByteArray.size_extract] at hc11_); (try simp only [ByteArray.size_append, ByteArray.size_extract] at hc13_); omega)]; try with_reducible rfl)
               rotate_left
               ·simp only [Act.put, List.setIfInBounds_toArray, List.set_cons_zero, List.set_cons_succ, i64_w, i32_w]
                rfl
               refine take_ (i := 13) (N := some 60) (v := ?_) (a' := ?_) #[true, true, true, true, true, true, true, true, true, true, true, true, true, true, false, false, false, false, false, false, false, false, false, false, false, false, false, false, false, false, false, false, false, false, false, false, false, false] rfl rfl (take_ofW HT_.out HW_.out (by kernel_rfl)) (fun _ _ _ h => h) (Or.inl ⟨by rfl, ?_⟩) hHeld ?_ ?_
               rotate_left
               ·rintro w' ⟨s0, s1, s2, s3, s4, s5, s6, s7, s8, s9, s10, s11⟩
                go_simp
                first | with_reducible rfl | (rw [if_neg (by have h1_ : (⟨#[10]⟩ : ByteArray).size = 1 := rfl; (try have hc8_ := of_decide_eq_true c8b1); (try have hc9_ := of_decide_eq_true c9b1); (try have hc10_ := of_decide_eq_true c10b1); (try have hc11_ := of_decide_eq_true c11b1); (try have hc13_ := of_decide_eq_true c13b1); (try simp only [ByteArray.size_append, ByteArray.size_extract] at hc8_); (try simp only [ByteArray.size_append, ByteArray.size_extract] at hc9_); (try simp only [ByteArray.size_append, ByteArray.size_extract] at hc10_); (try simp only [ByteArray.size_append, ByteArray.size_extract] at hc11_); (try simp only [ByteArray.size_append, ByteArray.size_extract] at hc13_); omega)]; try with_reducible rfl)
               rotate_left
               ·simp only [Act.put, List.setIfInBounds_toArray, List.set_cons_zero, List.set_cons_succ, i64_w, i32_w]
                rfl
               refine pure_ (i := 14) (N := some 61) (v := ?_) (a' := ?_) #[true, true, true, true, true, true, true, true, true, true, true, true, true, true, true, false, false, false, false, false, false, false, false, false, false, false, false, false, false, false, false, false, false, false, false, false, false, false] rfl rfl (any_of HT_.out (by kernel_rfl)) (fun _ _ _ h => h) (Or.inl ⟨by rfl, ?_⟩) ?_ ?_
               rotate_left
               ·intro w'
                go_simp
                first | with_reducible rfl | (rw [if_neg (by have h1_ : (⟨#[10]⟩ : ByteArray).size = 1 := rfl; (try have hc8_ := of_decide_eq_true c8b1); (try have hc9_ := of_decide_eq_true c9b1); (try have hc10_ := of_decide_eq_true c10b1); (try have hc11_ := of_decide_eq_true c11b1); (try have hc13_ := of_decide_eq_true c13b1); (try simp only [ByteArray.size_append, ByteArray.size_extract] at hc8_); (try simp only [ByteArray.size_append, ByteArray.size_extract] at hc9_); (try simp only [ByteArray.size_append, ByteArray.size_extract] at hc10_); (try simp only [ByteArray.size_append, ByteArray.size_extract] at hc11_); (try simp only [ByteArray.size_append, ByteArray.size_extract] at hc13_); omega)]; try with_reducible rfl)
               rotate_left
               ·simp only [Act.put, List.setIfInBounds_toArray, List.set_cons_zero, List.set_cons_succ, i64_w, i32_w]
                rfl
               refine pure_ (i := 15) (N := some 62) (v := ?_) (a' := ?_) #[true, true, true, true, true, true, true, true, true, true, true, true, true, true, true, true, false, false, false, false, false, false, false, false, false, false, false, false, false, false, false, false, false, false, false, false, false, false] rfl rfl (any_of HT_.out (by kernel_rfl)) (fun _ _ _ h => h) (Or.inl ⟨by rfl, ?_⟩) ?_ ?_
               rotate_left
               ·intro w'
                go_simp
                first | with_reducible rfl | (rw [if_neg (by have h1_ : (⟨#[10]⟩ : ByteArray).size = 1 := rfl; (try have hc8_ := of_decide_eq_true c8b1); (try have hc9_ := of_decide_eq_true c9b1); (try have hc10_ := of_decide_eq_true c10b1); (try have hc11_ := of_decide_eq_true c11b1); (try have hc13_ := of_decide_eq_true c13b1); (try simp only [ByteArray.size_append, ByteArray.size_extract] at hc8_); (try simp only [ByteArray.size_append, ByteArray.size_extract] at hc9_); (try simp only [ByteArray.size_append, ByteArray.size_extract] at hc10_); (try simp only [ByteArray.size_append, ByteArray.size_extract] at hc11_); (try simp only [ByteArray.size_append, ByteArray.size_extract] at hc13_); omega)]; try with_reducible rfl)
               rotate_left
               ·simp only [Act.put, List.setIfInBounds_toArray, List.set_cons_zero, List.set_cons_succ, i64_w, i32_w]
                rfl
               refine pure_ (i := 16) (N := some 63) (v := ?_) (a' := ?_) #[true, true, true, true, true, true, true, true, true, true, true, true, true, true, true, true, true, false, false, false, false, false, false, false, false, false, false, false, false, false, false, false, false, false, false, false, false, false] rfl rfl (any_of HT_.out (by kernel_rfl)) (fun _ _ _ h => h) (Or.inl ⟨by rfl, ?_⟩) ?_ ?_
               rotate_left
               ·intro w'
                go_simp
                first | with_reducible rfl | (rw [if_neg (by have h1_ : (⟨#[10]⟩ : ByteArray).size = 1 := rfl; (try have hc8_ := of_decide_eq_true c8b1); (try have hc9_ := of_decide_eq_true c9b1); (try have hc10_ := of_decide_eq_true c10b1); (try have hc11_ := of_decide_eq_true c11b1); (try have hc13_ := of_decide_eq_true c13b1); (try simp only [ByteArray.size_append, ByteArray.size_extract] at hc8_); (try simp only [ByteArray.size_append, ByteArray.size_extract] at hc9_); (try simp only [ByteArray.size_append, ByteArray.size_extract] at hc10_); (try simp only [ByteArray.size_append, ByteArray.size_extract] at hc11_); (try simp only [ByteArray.size_append, ByteArray.size_extract] at hc13_); omega)]; try with_reducible rfl)
               rotate_left
               ·simp only [Act.put, List.setIfInBounds_toArray, List.set_cons_zero, List.set_cons_succ, i64_w, i32_w]
                rfl
               refine pure_ (i := 17) (N := some 64) (v := ?_) (a' := ?_) #[true, true, true, true, true, true, true, true, true, true, true, true, true, true, true, true, true, true, false, false, false, false, false, false, false, false, false, false, false, false, false, false, false, false, false, false, false, false] rfl rfl (any_of HT_.out (by kernel_rfl)) (fun _ _ _ h => h) (Or.inl ⟨by rfl, ?_⟩) ?_ ?_
               rotate_left
               ·intro w'
                go_simp
                first | with_reducible rfl | (rw [if_neg (by have h1_ : (⟨#[10]⟩ : ByteArray).size = 1 := rfl; (try have hc8_ := of_decide_eq_true c8b1); (try have hc9_ := of_decide_eq_true c9b1); (try have hc10_ := of_decide_eq_true c10b1); (try have hc11_ := of_decide_eq_true c11b1); (try have hc13_ := of_decide_eq_true c13b1); (try simp only [ByteArray.size_append, ByteArray.size_extract] at hc8_); (try simp only [ByteArray.size_append, ByteArray.size_extract] at hc9_); (try simp only [ByteArray.size_append, ByteArray.size_extract] at hc10_); (try simp only [ByteArray.size_append, ByteArray.size_extract] at hc11_); (try simp only [ByteArray.size_append, ByteArray.size_extract] at hc13_); omega)]; try with_reducible rfl)
               rotate_left
               ·simp only [Act.put, List.setIfInBounds_toArray, List.set_cons_zero, List.set_cons_succ, i64_w, i32_w]
                rfl
               refine pure_ (i := 18) (N := some 65) (v := ?_) (a' := ?_) #[true, true, true, true, true, true, true, true, true, true, true, true, true, true, true, true, true, true, true, false, false, false, false, false, false, false, false, false, false, false, false, false, false, false, false, false, false, false] rfl rfl (any_of HT_.out (by kernel_rfl)) (fun _ _ _ h => h) (Or.inl ⟨by rfl, ?_⟩) ?_ ?_
               rotate_left
               ·intro w'
                go_simp
                first | with_reducible rfl | (rw [if_neg (by have h1_ : (⟨#[10]⟩ : ByteArray).size = 1 := rfl; (try have hc8_ := of_decide_eq_true c8b1); (try have hc9_ := of_decide_eq_true c9b1); (try have hc10_ := of_decide_eq_true c10b1); (try have hc11_ := of_decide_eq_true c11b1); (try have hc13_ := of_decide_eq_true c13b1); (try simp only [ByteArray.size_append, ByteArray.size_extract] at hc8_); (try simp only [ByteArray.size_append, ByteArray.size_extract] at hc9_); (try simp only [ByteArray.size_append, ByteArray.size_extract] at hc10_); (try simp only [ByteArray.size_append, ByteArray.size_extract] at hc11_); (try simp only [ByteArray.size_append, ByteArray.size_extract] at hc13_); omega)]; try with_reducible rfl)
               rotate_left
               ·simp only [Act.put, List.setIfInBounds_toArray, List.set_cons_zero, List.set_cons_succ, i64_w, i32_w]
                rfl
               refine pure_ (i := 19) (N := some 66) (v := ?_) (a' := ?_) #[true, true, true, true, true, true, true, true, true, true, true, true, true, true, true, true, true, true, true, true, false, false, false, false, false, false, false, false, false, false, false, false, false, false, false, false, false, false] rfl rfl (any_of HT_.out (by kernel_rfl)) (fun _ _ _ h => h) (Or.inl ⟨by rfl, ?_⟩) ?_ ?_
               rotate_left
               ·intro w'
                go_simp
                first | with_reducible rfl | (rw [if_neg (by have h1_ : (⟨#[10]⟩ : ByteArray).size = 1 := rfl; (try have hc8_ := of_decide_eq_true c8b1); (try have hc9_ := of_decide_eq_true c9b1); (try have hc10_ := of_decide_eq_true c10b1); (try have hc11_ := of_decide_eq_true c11b1); (try have hc13_ := of_decide_eq_true c13b1); (try simp only [ByteArray.size_append, ByteArray.size_extract] at hc8_); (try simp only [ByteArray.size_append, ByteArray.size_extract] at hc9_); (try simp only [ByteArray.size_append, ByteArray.size_extract] at hc10_); (try simp only [ByteArray.size_append, ByteArray.size_extract] at hc11_); (try simp only [ByteArray.size_append, ByteArray.size_extract] at hc13_); omega)]; try with_reducible rfl)
               rotate_left
               ·simp only [Act.put, List.setIfInBounds_toArray, List.set_cons_zero, List.set_cons_succ, i64_w, i32_w]
                rfl
               refine pure_ (i := 21) (N := some 68) (v := ?_) (a' := ?_) #[true, true, true, true, true, true, true, true, true, true, true, true, true, true, true, true, true, true, true, true, false, true, false, false, false, false, false, false, false, false, false, false, false, false, false, false, false, false] rfl rfl (any_of HT_.out (by kernel_rfl)) (fun _ _ _ h => h) (Or.inl ⟨by rfl, ?_⟩) ?_ ?_
               rotate_left
               ·intro w'
                go_simp
                first | with_reducible rfl | (rw [if_neg (by have h1_ : (⟨#[10]⟩ : ByteArray).size = 1 := rfl; (try have hc8_ := of_decide_eq_true c8b1); (try have hc9_ := of_decide_eq_true c9b1); (try have hc10_ := of_decide_eq_true c10b1); (try have hc11_ := of_decide_eq_true c11b1); (try have hc13_ := of_decide_eq_true c13b1); (try simp only [ByteArray.size_append, ByteArray.size_extract] at hc8_); (try simp only [ByteArray.size_append, ByteArray.size_extract] at hc9_); (try simp only [ByteArray.size_append, ByteArray.size_extract] at hc10_); (try simp only [ByteArray.size_append, ByteArray.size_extract] at hc11_); (try simp only [ByteArray.size_append, ByteArray.size_extract] at hc13_); omega)]; try with_reducible rfl)
               rotate_left
               ·simp only [Act.put, List.setIfInBounds_toArray, List.set_cons_zero, List.set_cons_succ, i64_w, i32_w]
                rfl
               refine take_ (i := 20) (N := some 67) (v := ?_) (a' := ?_) #[true, true, true, true, true, true, true, true, true, true, true, true, true, true, true, true, true, true, true, true, true, true, false, false, false, false, false, false, false, false, false, false, false, false, false, false, false, false] rfl rfl (take_ofW HT_.out HW_.out (by kernel_rfl)) (fun _ _ _ h => h) (Or.inl ⟨by rfl, ?_⟩) hHeld ?_ ?_
               rotate_left
               ·rintro w' ⟨s0, s1, s2, s3, s4, s5, s6, s7, s8, s9, s10, s11⟩
                go_simp
                first | with_reducible rfl | (rw [if_neg (by have h1_ : (⟨#[10]⟩ : ByteArray).size = 1 := rfl; (try have hc8_ := of_decide_eq_true c8b1); (try have hc9_ := of_decide_eq_true c9b1); (try have hc10_ := of_decide_eq_true c10b1); (try have hc11_ := of_decide_eq_true c11b1); (try have hc13_ := of_decide_eq_true c13b1); (try simp only [ByteArray.size_append, ByteArray.size_extract] at hc8_); (try simp only [ByteArray.size_append, ByteArray.size_extract] at hc9_); (try simp only [ByteArray.size_append, ByteArray.size_extract] at hc10_); (try simp only [ByteArray.size_append, ByteArray.size_extract] at hc11_); (try simp only [ByteArray.size_append, ByteArray.size_extract] at hc13_); omega)]; try with_reducible rfl)
               rotate_left
               ·simp only [Act.put, List.setIfInBounds_toArray, List.set_cons_zero, List.set_cons_succ, i64_w, i32_w]
                rfl
               refine pure_ (i := 22) (N := some 69) (v := ?_) (a' := ?_) #[true, true, true, true, true, true, true, true, true, true, true, true, true, true, true, true, true, true, true, true, true, true, true, false, false, false, false, false, false, false, false, false, false, false, false, false, false, false] rfl rfl (any_of HT_.out (by kernel_rfl)) (fun _ _ _ h => h) (Or.inl ⟨by rfl, ?_⟩) ?_ ?_
               rotate_left
               ·intro w'
                go_simp
                first | with_reducible rfl | (rw [if_neg (by have h1_ : (⟨#[10]⟩ : ByteArray).size = 1 := rfl; (try have hc8_ := of_decide_eq_true c8b1); (try have hc9_ := of_decide_eq_true c9b1); (try have hc10_ := of_decide_eq_true c10b1); (try have hc11_ := of_decide_eq_true c11b1); (try have hc13_ := of_decide_eq_true c13b1); (try simp only [ByteArray.size_append, ByteArray.size_extract] at hc8_); (try simp only [ByteArray.size_append, ByteArray.size_extract] at hc9_); (try simp only [ByteArray.size_append, ByteArray.size_extract] at hc10_); (try simp only [ByteArray.size_append, ByteArray.size_extract] at hc11_); (try simp only [ByteArray.size_append, ByteArray.size_extract] at hc13_); omega)]; try with_reducible rfl)
               rotate_left
               ·simp only [Act.put, List.setIfInBounds_toArray, List.set_cons_zero, List.set_cons_succ, i64_w, i32_w]
                rfl
               refine pure_ (i := 23) (N := some 70) (v := ?_) (a' := ?_) #[true, true, true, true, true, true, true, true, true, true, true, true, true, true, true, true, true, true, true, true, true, true, true, true, false, false, false, false, false, false, false, false, false, false, false, false, false, false] rfl rfl (any_of HT_.out (by kernel_rfl)) (fun _ _ _ h => h) (Or.inl ⟨by rfl, ?_⟩) ?_ ?_
               rotate_left
               ·intro w'
                go_simp
                first | with_reducible rfl | (rw [if_neg (by have h1_ : (⟨#[10]⟩ : ByteArray).size = 1 := rfl; (try have hc8_ := of_decide_eq_true c8b1); (try have hc9_ := of_decide_eq_true c9b1); (try have hc10_ := of_decide_eq_true c10b1); (try have hc11_ := of_decide_eq_true c11b1); (try have hc13_ := of_decide_eq_true c13b1); (try simp only [ByteArray.size_append, ByteArray.size_extract] at hc8_); (try simp only [ByteArray.size_append, ByteArray.size_extract] at hc9_); (try simp only [ByteArray.size_append, ByteArray.size_extract] at hc10_); (try simp only [ByteArray.size_append, ByteArray.size_extract] at hc11_); (try simp only [ByteArray.size_append, ByteArray.size_extract] at hc13_); omega)]; try with_reducible rfl)
               rotate_left
               ·simp only [Act.put, List.setIfInBounds_toArray, List.set_cons_zero, List.set_cons_succ, i64_w, i32_w]
                rfl
               refine pure_ (i := 24) (N := some 71) (v := ?_) (a' := ?_) #[true, true, true, true, true, true, true, true, true, true, true, true, true, true, true, true, true, true, true, true, true, true, true, true, true, false, false, false, false, false, false, false, false, false, false, false, false, false] rfl rfl (any_of HT_.out (by kernel_rfl)) (fun _ _ _ h => h) (Or.inl ⟨by rfl, ?_⟩) ?_ ?_
               rotate_left
               ·intro w'
                go_simp
                first | with_reducible rfl | (rw [if_neg (by have h1_ : (⟨#[10]⟩ : ByteArray).size = 1 := rfl; (try have hc8_ := of_decide_eq_true c8b1); (try have hc9_ := of_decide_eq_true c9b1); (try have hc10_ := of_decide_eq_true c10b1); (try have hc11_ := of_decide_eq_true c11b1); (try have hc13_ := of_decide_eq_true c13b1); (try simp only [ByteArray.size_append, ByteArray.size_extract] at hc8_); (try simp only [ByteArray.size_append, ByteArray.size_extract] at hc9_); (try simp only [ByteArray.size_append, ByteArray.size_extract] at hc10_); (try simp only [ByteArray.size_append, ByteArray.size_extract] at hc11_); (try simp only [ByteArray.size_append, ByteArray.size_extract] at hc13_); omega)]; try with_reducible rfl)
               rotate_left
               ·simp only [Act.put, List.setIfInBounds_toArray, List.set_cons_zero, List.set_cons_succ, i64_w, i32_w]
                rfl
               refine pure_ (i := 25) (N := some 72) (v := undef) (a' := ?_) #[true, true, true, true, true, true, true, true, true, true, true, true, true, true, true, true, true, true, true, true, true, true, true, true, true, true, false, false, false, false, false, false, false, false, false, false, false, false] rfl rfl (any_of HT_.out (by kernel_rfl)) (fun _ _ _ h => h) (Or.inr ⟨by rfl, rfl⟩) ?_ ?_
               rotate_left
               ·simp only [Act.put, List.setIfInBounds_toArray, List.set_cons_zero, List.set_cons_succ, i64_w, i32_w]
                rfl
               refine pure_ (i := 26) (N := some 73) (v := undef) (a' := ?_) #[true, true, true, true, true, true, true, true, true, true, true, true, true, true, true, true, true, true, true, true, true, true, true, true, true, true, true, false, false, false, false, false, false, false, false, false, false, false] rfl rfl (any_of HT_.out (by kernel_rfl)) (fun _ _ _ h => h) (Or.inr ⟨by rfl, rfl⟩) ?_ ?_
               rotate_left
               ·simp only [Act.put, List.setIfInBounds_toArray, List.set_cons_zero, List.set_cons_succ, i64_w, i32_w]
                rfl
               refine pure_ (i := 27) (N := some 74) (v := undef) (a' := ?_) #[true, true, true, true, true, true, true, true, true, true, true, true, true, true, true, true, true, true, true, true, true, true, true, true, true, true, true, true, false, false, false, false, false, false, false, false, false, false] rfl rfl (any_of HT_.out (by kernel_rfl)) (fun _ _ _ h => h) (Or.inr ⟨by rfl, rfl⟩) ?_ ?_
               rotate_left
               ·simp only [Act.put, List.setIfInBounds_toArray, List.set_cons_zero, List.set_cons_succ, i64_w, i32_w]
                rfl
               refine pure_ (i := 28) (N := some 75) (v := undef) (a' := ?_) #[true, true, true, true, true, true, true, true, true, true, true, true, true, true, true, true, true, true, true, true, true, true, true, true, true, true, true, true, true, false, false, false, false, false, false, false, false, false] rfl rfl (any_of HT_.out (by kernel_rfl)) (fun _ _ _ h => h) (Or.inr ⟨by rfl, rfl⟩) ?_ ?_
               rotate_left
               ·simp only [Act.put, List.setIfInBounds_toArray, List.set_cons_zero, List.set_cons_succ, i64_w, i32_w]
                rfl
               refine pure_ (i := 29) (N := some 76) (v := undef) (a' := ?_) #[true, true, true, true, true, true, true, true, true, true, true, true, true, true, true, true, true, true, true, true, true, true, true, true, true, true, true, true, true, true, false, false, false, false, false, false, false, false] rfl rfl (any_of HT_.out (by kernel_rfl)) (fun _ _ _ h => h) (Or.inr ⟨by rfl, rfl⟩) ?_ ?_
               rotate_left
               ·simp only [Act.put, List.setIfInBounds_toArray, List.set_cons_zero, List.set_cons_succ, i64_w, i32_w]
                rfl
               refine pure_ (i := 30) (N := some 77) (v := undef) (a' := ?_) #[true, true, true, true, true, true, true, true, true, true, true, true, true, true, true, true, true, true, true, true, true, true, true, true, true, true, true, true, true, true, true, false, false, false, false, false, false, false] rfl rfl (any_of HT_.out (by kernel_rfl)) (fun _ _ _ h => h) (Or.inr ⟨by rfl, rfl⟩) ?_ ?_
               rotate_left
               ·simp only [Act.put, List.setIfInBounds_toArray, List.set_cons_zero, List.set_cons_succ, i64_w, i32_w]
                rfl
               refine pure_ (i := 31) (N := some 78) (v := undef) (a' := ?_) #[true, true, true, true, true, true, true, true, true, true, true, true, true, true, true, true, true, true, true, true, true, true, true, true, true, true, true, true, true, true, true, true, false, false, false, false, false, false] rfl rfl (any_of HT_.out (by kernel_rfl)) (fun _ _ _ h => h) (Or.inr ⟨by rfl, rfl⟩) ?_ ?_
               rotate_left
               ·simp only [Act.put, List.setIfInBounds_toArray, List.set_cons_zero, List.set_cons_succ, i64_w, i32_w]
                rfl
               refine pure_ (i := 32) (N := some 79) (v := undef) (a' := ?_) #[true, true, true, true, true, true, true, true, true, true, true, true, true, true, true, true, true, true, true, true, true, true, true, true, true, true, true, true, true, true, true, true, true, false, false, false, false, false] rfl rfl (any_of HT_.out (by kernel_rfl)) (fun _ _ _ h => h) (Or.inr ⟨by rfl, rfl⟩) ?_ ?_
               rotate_left
               ·simp only [Act.put, List.setIfInBounds_toArray, List.set_cons_zero, List.set_cons_succ, i64_w, i32_w]
                rfl
               refine pure_ (i := 33) (N := some 80) (v := undef) (a' := ?_) #[true, true, true, true, true, true, true, true, true, true, true, true, true, true, true, true, true, true, true, true, true, true, true, true, true, true, true, true, true, true, true, true, true, true, false, false, false, false] rfl rfl (any_of HT_.out (by kernel_rfl)) (fun _ _ _ h => h) (Or.inr ⟨by rfl, rfl⟩) ?_ ?_
               rotate_left
               ·simp only [Act.put, List.setIfInBounds_toArray, List.set_cons_zero, List.set_cons_succ, i64_w, i32_w]
                rfl
               refine pure_ (i := 34) (N := some 81) (v := undef) (a' := ?_) #[true, true, true, true, true, true, true, true, true, true, true, true, true, true, true, true, true, true, true, true, true, true, true, true, true, true, true, true, true, true, true, true, true, true, true, false, false, false] rfl rfl (any_of HT_.out (by kernel_rfl)) (fun _ _ _ h => h) (Or.inr ⟨by rfl, rfl⟩) ?_ ?_
               rotate_left
               ·simp only [Act.put, List.setIfInBounds_toArray, List.set_cons_zero, List.set_cons_succ, i64_w, i32_w]
                rfl
               refine pure_ (i := 35) (N := some 82) (v := undef) (a' := ?_) #[true, true, true, true, true, true, true, true, true, true, true, true, true, true, true, true, true, true, true, true, true, true, true, true, true, true, true, true, true, true, true, true, true, true, true, true, false, false] rfl rfl (any_of HT_.out (by kernel_rfl)) (fun _ _ _ h => h) (Or.inr ⟨by rfl, rfl⟩) ?_ ?_
               rotate_left
               ·simp only [Act.put, List.setIfInBounds_toArray, List.set_cons_zero, List.set_cons_succ, i64_w, i32_w]
                rfl
               refine pure_ (i := 36) (N := some 83) (v := ?_) (a' := ?_) #[true, true, true, true, true, true, true, true, true, true, true, true, true, true, true, true, true, true, true, true, true, true, true, true, true, true, true, true, true, true, true, true, true, true, true, true, true, false] rfl rfl (any_of HT_.out (by kernel_rfl)) (fun _ _ _ h => h) (Or.inl ⟨by rfl, ?_⟩) ?_ ?_
               rotate_left
               ·intro w'
                go_simp
                first | with_reducible rfl | (rw [if_neg (by have h1_ : (⟨#[10]⟩ : ByteArray).size = 1 := rfl; (try have hc8_ := of_decide_eq_true c8b1); (try have hc9_ := of_decide_eq_true c9b1); (try have hc10_ := of_decide_eq_true c10b1); (try have hc11_ := of_decide_eq_true c11b1); (try have hc13_ := of_decide_eq_true c13b1); (try simp only [ByteArray.size_append, ByteArray.size_extract] at hc8_); (try simp only [ByteArray.size_append, ByteArray.size_extract] at hc9_); (try simp only [ByteArray.size_append, ByteArray.size_extract] at hc10_); (try simp only [ByteArray.size_append, ByteArray.size_extract] at hc11_); (try simp only [ByteArray.size_append, ByteArray.size_extract] at hc13_); omega)]; try with_reducible rfl)
               rotate_left
               ·simp only [Act.put, List.setIfInBounds_toArray, List.set_cons_zero, List.set_cons_succ, i64_w, i32_w]
                rfl
               refine pure_ (i := 37) (N := some 6) (v := ?_) (a' := ?_) #[true, true, true, true, true, true, true, true, true, true, true, true, true, true, true, true, true, true, true, true, true, true, true, true, true, true, true, true, true, true, true, true, true, true, true, true, true, true] rfl rfl (any_of HT_.out (by kernel_rfl)) (fun _ _ _ h => h) (Or.inl ⟨by rfl, ?_⟩) ?_ ?_
               rotate_left
               ·intro w'
                go_simp
                first | with_reducible rfl | (rw [if_neg (by have h1_ : (⟨#[10]⟩ : ByteArray).size = 1 := rfl; (try have hc8_ := of_decide_eq_true c8b1); (try have hc9_ := of_decide_eq_true c9b1); (try have hc10_ := of_decide_eq_true c10b1); (try have hc11_ := of_decide_eq_true c11b1); (try have hc13_ := of_decide_eq_true c13b1); (try simp only [ByteArray.size_append, ByteArray.size_extract] at hc8_); (try simp only [ByteArray.size_append, ByteArray.size_extract] at hc9_); (try simp only [ByteArray.size_append, ByteArray.size_extract] at hc10_); (try simp only [ByteArray.size_append, ByteArray.size_extract] at hc11_); (try simp only [ByteArray.size_append, ByteArray.size_extract] at hc13_); omega)]; try with_reducible rfl)
               rotate_left
               ·simp only [Act.put, List.setIfInBounds_toArray, List.set_cons_zero, List.set_cons_succ, i64_w, i32_w]
                rfl
               refine done_ (done_of HT_.out (by kernel_rfl)) ?_
               try go_wp2
               go_ret
               exact ⟨by first | rfl | (simp [errW_none, errW_some] <;> rfl) | (simp only [← hji7]; first | rfl | (simp [errW_none, errW_some] <;> rfl)) | (simp [*, errW_none, errW_some] <;> rfl), by repeat (first | (with_reducible first | exact HB.out | apply below_alloc | apply pw_below_drewN | apply below_drew1) | exact HB.out)⟩
             ·rw [if_neg c21] at H
              have c21b0 : (((rd_T30 t225 1).f0) == 3) = false := beq_eq_false_iff_ne.mpr c21
              have c21b1 : (((rd_T30 t225 1).f0) != 3) = true := bne_iff_ne.mpr c21
              obtain rfl := Option.some.inj H
              go_enter Tryd.func10, Tryd.ntmps10
              try go_wp2_with (first | ((with_reducible refine gate_callee (f := 11) rfl ?_); refine goesL_ (some 13) rfl rfl Tryd.func11 (by kernel_rfl) rfl #[] rfl (by (try simp only [List.map_toArray, List.map_cons, List.map_nil]); first | done | rfl | (simp only [List.length_drop, List.length_take]; rfl)) ?_; (with_reducible refine (pandectlaw05_head.calls  true _ A4.out).mono ?_); rintro e w33 ⟨rfl, hb⟩; refine ⟨_, rfl, ?_⟩; have n0_ := Aside0.mk (below_step (by repeat (first | (with_reducible first | exact HB.out | apply below_alloc | apply pw_below_drewN | apply below_drew1) | exact HB.out)) hb); clear HB; have HB := n0_; clear n0_; (try clear hb); (try clear hb2); (try clear hk); (try clear hi)) | ((with_reducible refine gate_callee (f := 18) rfl ?_); refine goesL_ (some 15) rfl rfl Tryd.func18 (by kernel_rfl) rfl #[.string a0] rfl (by (try simp only [List.map_toArray, List.map_cons, List.map_nil]); first | done | rfl | (simp only [List.length_drop, List.length_take]; rfl)) ?_; (with_reducible refine (pandectref05_Name.calls k a0 true _ A5.out).mono ?_); rintro e w' ⟨rfl, ⟨nd, rfl⟩⟩; refine ⟨_, rfl, ?_⟩) | ((with_reducible refine gate_callee (f := 19) rfl ?_); refine goesL_ (some 34) rfl rfl Tryd.func19 (by kernel_rfl) rfl #[.int .i64 (wrap64 (Int.tmod a1 10000000))] rfl (by (try simp only [List.map_toArray, List.map_cons, List.map_nil]); first | done | rfl | (simp only [List.length_drop, List.length_take]; rfl)) ?_; (with_reducible refine (pandectref05_Decimal.calls k (wrap64 (Int.tmod a1 10000000)) t224 _ A12.out).mono ?_); rintro e w' ⟨rfl, ⟨nd, rfl⟩⟩; refine ⟨_, rfl, ?_⟩) | ((with_reducible refine gate_callee (f := 12) rfl ?_); refine goesL_ (some 36) rfl rfl Tryd.func12 (by kernel_rfl) rfl #[.string ((a0 ++ ((⟨#[61, 59, 60, 62, 40, 41, 123, 125, 91, 93, 44, 46, 58]⟩ : ByteArray).extract ((ji7) : Int).toNat ((wrap64 ((ji7) + 1)) : Int).toNat)) ++ t224)] rfl (by (try simp only [List.map_toArray, List.map_cons, List.map_nil]); first | done | (simp only [hji7]; rfl) | rfl | (simp only [List.length_drop, List.length_take]; rfl)) ?_; (with_reducible refine (lexer_Lex.calls ((a0 ++ ((⟨#[61, 59, 60, 62, 40, 41, 123, 125, 91, 93, 44, 46, 58]⟩ : ByteArray).extract ((ji7) : Int).toNat ((wrap64 ((ji7) + 1)) : Int).toNat)) ++ t224) t225 t226 t227 _ A14.out).mono ?_); rintro e w34 ⟨v228, rfl, ho0, hb⟩; refine ⟨_, rfl, ?_⟩; have n0_ := Aside0.mk (Kd.R_lower ho0 (below_size (by repeat (first | (with_reducible first | exact HB.out | apply below_alloc | apply pw_below_drewN | apply below_drew1) | exact HB.out)))); have n1_ := Aside0.mk (below_step (by repeat (first | (with_reducible first | exact HB.out | apply below_alloc | apply pw_below_drewN | apply below_drew1) | exact HB.out)) hb); clear HB; have HO229 := n0_; have HB := n1_; clear n0_ n1_; (try clear hb); (try clear hb2); (try clear hk); (try clear hi); (try clear ho0); obtain ⟨Ao35, co35, eo35⟩ := Kd.R_slice HO229.out; subst eo35))
              have n0_ := Aside0.mk (Kd.R_drew HO229.out)
              have n1_ := Aside0.mk (below_drew1 HB.out)
              clear HO229
              clear HB
              have HO229 := n0_
              have HB := n1_
              clear n0_ n1_
              have p230 : 0 ≤ (0 : Int) := (by omega)
              have q230 : 0 < (t225.length : Int) := of_decide_eq_true (by first | (with_reducible assumption) | assumption)
              obtain ⟨ad230, e230, hx230_0, hx230_1, hx230_2, hx230_3⟩ := at_T30 (Kd.R_reads' HO229.out).2.2 0 p230 q230
              cases e230
              have qi230 : (0 < t225.length) = True := eq_true (by omega)
              (try rw [show ((0 : Int)).toNat = 0 from rfl] at hx230_0)
              (try rw [show 0 * 4 = 0 from rfl] at hx230_0)
              (try rw [Addr.add_zero'] at hx230_0)
              (try rw [show ((0 : Int)).toNat = 0 from rfl] at hx230_1)
              (try rw [show 0 * 4 = 0 from rfl] at hx230_1)
              (try rw [Addr.add_zero'] at hx230_1)
              (try rw [show ((0 : Int)).toNat = 0 from rfl] at hx230_2)
              (try rw [show 0 * 4 = 0 from rfl] at hx230_2)
              (try rw [Addr.add_zero'] at hx230_2)
              (try rw [show ((0 : Int)).toNat = 0 from rfl] at hx230_3)
              (try rw [show 0 * 4 = 0 from rfl] at hx230_3)
              (try rw [Addr.add_zero'] at hx230_3)
              replace p230 := eq_true p230
              replace q230 := eq_true q230
              have p231 : 0 ≤ (1 : Int) := (by omega)
              have q231 : 1 < (t225.length : Int) := of_decide_eq_true (by first | (with_reducible assumption) | assumption)
              obtain ⟨ad231, e231, hx231_0, hx231_1, hx231_2, hx231_3⟩ := at_T30 (Kd.R_reads' HO229.out).2.2 1 p231 q231
              obtain rfl : ad230 = ad231 := (by injection e231)
              (try simp only [show (1 : Int).toNat = 1 from rfl, Nat.reduceMul, Nat.reduceEqDiff, Go.Addr.add, ↓reduceIte] at hx231_0)
              (try simp only [show (1 : Int).toNat = 1 from rfl, Nat.reduceMul, Nat.reduceEqDiff, Go.Addr.add, ↓reduceIte] at hx231_1)
              (try simp only [show (1 : Int).toNat = 1 from rfl, Nat.reduceMul, Nat.reduceEqDiff, Go.Addr.add, ↓reduceIte] at hx231_2)
              (try simp only [show (1 : Int).toNat = 1 from rfl, Nat.reduceMul, Nat.reduceEqDiff, Go.Addr.add, ↓reduceIte] at hx231_3)
              have qi231 : (1 < t225.length) = True := eq_true (by omega)
              (try rw [show ((1 : Int)).toNat = 1 from rfl] at hx231_0)
              (try rw [show 1 * 4 = 4 from rfl] at hx231_0)
              (try rw [show ((1 : Int)).toNat = 1 from rfl] at hx231_1)
              (try rw [show 1 * 4 = 4 from rfl] at hx231_1)
              (try rw [show ((1 : Int)).toNat = 1 from rfl] at hx231_2)
              (try rw [show 1 * 4 = 4 from rfl] at hx231_2)
              (try rw [show ((1 : Int)).toNat = 1 from rfl] at hx231_3)
              (try rw [show 1 * 4 = 4 from rfl] at hx231_3)
              replace p231 := eq_true p231
              replace q231 := eq_true q231
              refine start_ (n := 38) (S := fun w' => w'.cell? ad230 = some (.int .i64 ((rd_T30 t225 0).f0)) ∧ w'.cell? ⟨ad230.block, ad230.off + 1, none⟩ = some (.string ((rd_T30 t225 0).f1)) ∧ w'.cell? ⟨ad230.block, ad230.off + 2, none⟩ = some (.int .i64 ((rd_T30 t225 0).f2)) ∧ w'.cell? ⟨ad230.block, ad230.off + 3, none⟩ = some (.int .i64 ((rd_T30 t225 0).f3)) ∧ w'.cell? ⟨ad230.block, ad230.off + 4, none⟩ = some (.int .i64 ((rd_T30 t225 1).f0)) ∧ w'.cell? ⟨ad230.block, ad230.off + 4 + 1, none⟩ = some (.string ((rd_T30 t225 1).f1)) ∧ w'.cell? ⟨ad230.block, ad230.off + 4 + 2, none⟩ = some (.int .i64 ((rd_T30 t225 1).f2)) ∧ w'.cell? ⟨ad230.block, ad230.off + 4 + 3, none⟩ = some (.int .i64 ((rd_T30 t225 1).f3))) (ds := []) #[false, false, false, false, false, false, false, false, false, false, false, false, false, false, false, false, false, false, false, false, false, false, false, false, false, false, false, false, false, false, false, false, false, false, false, false, false, false] (by kernel_rfl) rfl rfl ⟨hx230_0, hx230_1, hx230_2, hx230_3, hx231_0, hx231_1, hx231_2, hx231_3⟩ (fun hHeld => ?_); refine with_tabW pandectlaw05_LexerWords.tab9 pandectlaw05_LexerWords.bits9 (fun HT_ HW_ => ?_)
              generalize w34.drew = w36 at HO229 HB hx230_0 hx230_1 hx230_2 hx230_3 hx231_0 hx231_1 hx231_2 hx231_3 hHeld ⊢
              refine pure_ (i := 0) (N := some 47) (v := ?_) (a' := ?_) #[true, false, false, false, false, false, false, false, false, false, false, false, false, false, false, false, false, false, false, false, false, false, false, false, false, false, false, false, false, false, false, false, false, false, false, false, false, false] rfl rfl (any_of HT_.out (by kernel_rfl)) (fun _ _ _ h => h) (Or.inl ⟨by rfl, ?_⟩) ?_ ?_
              rotate_left
              ·intro w'
               go_simp
               first | with_reducible rfl | (rw [if_neg (by have h1_ : (⟨#[10]⟩ : ByteArray).size = 1 := rfl; (try have hc8_ := of_decide_eq_true c8b1); (try have hc9_ := of_decide_eq_true c9b1); (try have hc10_ := of_decide_eq_true c10b1); (try have hc11_ := of_decide_eq_true c11b1); (try have hc13_ := of_decide_eq_true c13b1); (try simp only [ByteArray.size_append, ByteArray.size_extract] at hc8_); (try simp only [ByteArray.size_append, ByteArray.size_extract] at hc9_); (try simp only [ByteArray.size_append, ByteArray.size_extract] at hc10_); (try simp only [ByteArray.size_append, ByteArray.size_extract] at hc11_); (try simp only [ByteArray.size_append, ByteArray.size_extract] at hc13_); omega)]; try with_reducible rfl)
              rotate_left
              ·simp only [Act.put, List.setIfInBounds_toArray, List.set_cons_zero, List.set_cons_succ, i64_w, i32_w]
               rfl
              refine pure_ (i := 1) (N := some 48) (v := ?_) (a' := ?_) #[true, true, false, false, false, false, false, false, false, false, false, false, false, false, false, false, false, false, false, false, false, false, false, false, false, false, false, false, false, false, false, false, false, false, false, false, false, false] rfl rfl (any_of HT_.out (by kernel_rfl)) (fun _ _ _ h => h) (Or.inl ⟨by rfl, ?_⟩) ?_ ?_
              rotate_left
              ·intro w'
               go_simp
               first | with_reducible rfl | (rw [if_neg (by have h1_ : (⟨#[10]⟩ : ByteArray).size = 1 := rfl; (try have hc8_ := of_decide_eq_true c8b1); (try have hc9_ := of_decide_eq_true c9b1); (try have hc10_ := of_decide_eq_true c10b1); (try have hc11_ := of_decide_eq_true c11b1); (try have hc13_ := of_decide_eq_true c13b1); (try simp only [ByteArray.size_append, ByteArray.size_extract] at hc8_); (try simp only [ByteArray.size_append, ByteArray.size_extract] at hc9_); (try simp only [ByteArray.size_append, ByteArray.size_extract] at hc10_); (try simp only [ByteArray.size_append, ByteArray.size_extract] at hc11_); (try simp only [ByteArray.size_append, ByteArray.size_extract] at hc13_); omega)]; try with_reducible rfl)
              rotate_left
              ·simp only [Act.put, List.setIfInBounds_toArray, List.set_cons_zero, List.set_cons_succ, i64_w, i32_w]
               rfl
              refine pure_ (i := 2) (N := some 49) (v := ?_) (a' := ?_) #[true, true, true, false, false, false, false, false, false, false, false, false, false, false, false, false, false, false, false, false, false, false, false, false, false, false, false, false, false, false, false, false, false, false, false, false, false, false] rfl rfl (any_of HT_.out (by kernel_rfl)) (fun _ _ _ h => h) (Or.inl ⟨by rfl, ?_⟩) ?_ ?_
              rotate_left
              ·intro w'
               go_simp
               first | with_reducible rfl | (rw [if_neg (by have h1_ : (⟨#[10]⟩ : ByteArray).size = 1 := rfl; (try have hc8_ := of_decide_eq_true c8b1); (try have hc9_ := of_decide_eq_true c9b1); (try have hc10_ := of_decide_eq_true c10b1); (try have hc11_ := of_decide_eq_true c11b1); (try have hc13_ := of_decide_eq_true c13b1); (try simp only [ByteArray.size_append, ByteArray.size_extract] at hc8_); (try simp only [ByteArray.size_append, ByteArray.size_extract] at hc9_); (try simp only [ByteArray.size_append, ByteArray.size_extract] at hc10_); (try simp only [ByteArray.size_append, ByteArray.size_extract] at hc11_); (try simp only [ByteArray.size_append, ByteArray.size_extract] at hc13_); omega)]; try with_reducible rfl)
              rotate_left
              ·simp only [Act.put, List.setIfInBounds_toArray, List.set_cons_zero, List.set_cons_succ, i64_w, i32_w]
               rfl
              refine pure_ (i := 3) (N := some 50) (v := ?_) (a' := ?_) #[true, true, true, true, false, false, false, false, false, false, false, false, false, false, false, false, false, false, false, false, false, false, false, false, false, false, false, false, false, false, false, false, false, false, false, false, false, false] rfl rfl (any_of HT_.out (by kernel_rfl)) (fun _ _ _ h => h) (Or.inl ⟨by rfl, ?_⟩) ?_ ?_
              rotate_left
              ·intro w'
               go_simp
               first | with_reducible rfl | (rw [if_neg (by have h1_ : (⟨#[10]⟩ : ByteArray).size = 1 := rfl; (try have hc8_ := of_decide_eq_true c8b1); (try have hc9_ := of_decide_eq_true c9b1); (try have hc10_ := of_decide_eq_true c10b1); (try have hc11_ := of_decide_eq_true c11b1); (try have hc13_ := of_decide_eq_true c13b1); (try simp only [ByteArray.size_append, ByteArray.size_extract] at hc8_); (try simp only [ByteArray.size_append, ByteArray.size_extract] at hc9_); (try simp only [ByteArray.size_append, ByteArray.size_extract] at hc10_); (try simp only [ByteArray.size_append, ByteArray.size_extract] at hc11_); (try simp only [ByteArray.size_append, ByteArray.size_extract] at hc13_); omega)]; try with_reducible rfl)
              rotate_left
              ·simp only [Act.put, List.setIfInBounds_toArray, List.set_cons_zero, List.set_cons_succ, i64_w, i32_w]
               rfl
              refine pure_ (i := 5) (N := some 52) (v := ?_) (a' := ?_) #[true, true, true, true, false, true, false, false, false, false, false, false, false, false, false, false, false, false, false, false, false, false, false, false, false, false, false, false, false, false, false, false, false, false, false, false, false, false] rfl rfl (any_of HT_.out (by kernel_rfl)) (fun _ _ _ h => h) (Or.inl ⟨by rfl, ?_⟩) ?_ ?_
              rotate_left
              ·intro w'
               go_simp
               first | with_reducible rfl | (rw [if_neg (by have h1_ : (⟨#[10]⟩ : ByteArray).size = 1 := rfl; (try have hc8_ := of_decide_eq_true c8b1); (try have hc9_ := of_decide_eq_true c9b1); (try have hc10_ := of_decide_eq_true c10b1); (try have hc11_ := of_decide_eq_true c11b1); (try have hc13_ := of_decide_eq_true c13b1); (try simp only [ByteArray.size_append, ByteArray.size_extract] at hc8_); (try simp only [ByteArray.size_append, ByteArray.size_extract] at hc9_); (try simp only [ByteArray.size_append, ByteArray.size_extract] at hc10_); (try simp only [ByteArray.size_append, ByteArray.size_extract] at hc11_); (try simp only [ByteArray.size_append, ByteArray.size_extract] at hc13_); omega)]; try with_reducible rfl)
              rotate_left
              ·simp only [Act.put, List.setIfInBounds_toArray, List.set_cons_zero, List.set_cons_succ, i64_w, i32_w]
               rfl
              refine pure_ (i := 6) (N := some 53) (v := ?_) (a' := ?_) #[true, true, true, true, false, true, true, false, false, false, false, false, false, false, false, false, false, false, false, false, false, false, false, false, false, false, false, false, false, false, false, false, false, false, false, false, false, false] rfl rfl (any_of HT_.out (by kernel_rfl)) (fun _ _ _ h => h) (Or.inl ⟨by rfl, ?_⟩) ?_ ?_
              rotate_left
              ·intro w'
               go_simp
               first | with_reducible rfl | (rw [if_neg (by have h1_ : (⟨#[10]⟩ : ByteArray).size = 1 := rfl; (try have hc8_ := of_decide_eq_true c8b1); (try have hc9_ := of_decide_eq_true c9b1); (try have hc10_ := of_decide_eq_true c10b1); (try have hc11_ := of_decide_eq_true c11b1); (try have hc13_ := of_decide_eq_true c13b1); (try simp only [ByteArray.size_append, ByteArray.size_extract] at hc8_); (try simp only [ByteArray.size_append, ByteArray.size_extract] at hc9_); (try simp only [ByteArray.size_append, ByteArray.size_extract] at hc10_); (try simp only [ByteArray.size_append, ByteArray.size_extract] at hc11_); (try simp only [ByteArray.size_append, ByteArray.size_extract] at hc13_); omega)]; try with_reducible rfl)
              rotate_left
              ·simp only [Act.put, List.setIfInBounds_toArray, List.set_cons_zero, List.set_cons_succ, i64_w, i32_w]
               rfl
              refine take_ (i := 4) (N := some 51) (v := ?_) (a' := ?_) #[true, true, true, true, true, true, true, false, false, false, false, false, false, false, false, false, false, false, false, false, false, false, false, false, false, false, false, false, false, false, false, false, false, false, false, false, false, false] rfl rfl (take_ofW HT_.out HW_.out (by kernel_rfl)) (fun _ _ _ h => h) (Or.inl ⟨by rfl, ?_⟩) hHeld ?_ ?_
              rotate_left
              ·rintro w' ⟨s0, s1, s2, s3, s4, s5, s6, s7⟩
               go_simp
               first | with_reducible rfl | (rw [if_neg (by have h1_ : (⟨#[10]⟩ : ByteArray).size = 1 := rfl; (try have hc8_ := of_decide_eq_true c8b1); (try have hc9_ := of_decide_eq_true c9b1); (try have hc10_ := of_decide_eq_true c10b1); (try have hc11_ := of_decide_eq_true c11b1); (try have hc13_ := of_decide_eq_true c13b1); (try simp only [ByteArray.size_append, ByteArray.size_extract] at hc8_); (try simp only [ByteArray.size_append, ByteArray.size_extract] at hc9_); (try simp only [ByteArray.size_append, ByteArray.size_extract] at hc10_); (try simp only [ByteArray.size_append, ByteArray.size_extract] at hc11_); (try simp only [ByteArray.size_append, ByteArray.size_extract] at hc13_); omega)]; try with_reducible rfl)
              rotate_left
              ·simp only [Act.put, List.setIfInBounds_toArray, List.set_cons_zero, List.set_cons_succ, i64_w, i32_w]
               rfl
              refine pure_ (i := 7) (N := some 54) (v := ?_) (a' := ?_) #[true, true, true, true, true, true, true, true, false, false, false, false, false, false, false, false, false, false, false, false, false, false, false, false, false, false, false, false, false, false, false, false, false, false, false, false, false, false] rfl rfl (any_of HT_.out (by kernel_rfl)) (fun _ _ _ h => h) (Or.inl ⟨by rfl, ?_⟩) ?_ ?_
              rotate_left
              ·intro w'
               go_simp
               first | with_reducible rfl | (rw [if_neg (by have h1_ : (⟨#[10]⟩ : ByteArray).size = 1 := rfl; (try have hc8_ := of_decide_eq_true c8b1); (try have hc9_ := of_decide_eq_true c9b1); (try have hc10_ := of_decide_eq_true c10b1); (try have hc11_ := of_decide_eq_true c11b1); (try have hc13_ := of_decide_eq_true c13b1); (try simp only [ByteArray.size_append, ByteArray.size_extract] at hc8_); (try simp only [ByteArray.size_append, ByteArray.size_extract] at hc9_); (try simp only [ByteArray.size_append, ByteArray.size_extract] at hc10_); (try simp only [ByteArray.size_append, ByteArray.size_extract] at hc11_); (try simp only [ByteArray.size_append, ByteArray.size_extract] at hc13_); omega)]; try with_reducible rfl)
              rotate_left
              ·simp only [Act.put, List.setIfInBounds_toArray, List.set_cons_zero, List.set_cons_succ, i64_w, i32_w]
               rfl
              refine pure_ (i := 8) (N := some 55) (v := ?_) (a' := ?_) #[true, true, true, true, true, true, true, true, true, false, false, false, false, false, false, false, false, false, false, false, false, false, false, false, false, false, false, false, false, false, false, false, false, false, false, false, false, false] rfl rfl (any_of HT_.out (by kernel_rfl)) (fun _ _ _ h => h) (Or.inl ⟨by rfl, ?_⟩) ?_ ?_
              rotate_left
              ·intro w'
               go_simp
               first | with_reducible rfl | (rw [if_neg (by have h1_ : (⟨#[10]⟩ : ByteArray).size = 1 := rfl; (try have hc8_ := of_decide_eq_true c8b1); (try have hc9_ := of_decide_eq_true c9b1); (try have hc10_ := of_decide_eq_true c10b1); (try have hc11_ := of_decide_eq_true c11b1); (try have hc13_ := of_decide_eq_true c13b1); (try simp only [ByteArray.size_append, ByteArray.size_extract] at hc8_); (try simp only [ByteArray.size_append, ByteArray.size_extract] at hc9_); (try simp only [ByteArray.size_append, ByteArray.size_extract] at hc10_); (try simp only [ByteArray.size_append, ByteArray.size_extract] at hc11_); (try simp only [ByteArray.size_append, ByteArray.size_extract] at hc13_); omega)]; try with_reducible rfl)
              rotate_left
              ·simp only [Act.put, List.setIfInBounds_toArray, List.set_cons_zero, List.set_cons_succ, i64_w, i32_w]
               rfl
              refine pure_ (i := 9) (N := some 56) (v := ?_) (a' := ?_) #[true, true, true, true, true, true, true, true, true, true, false, false, false, false, false, false, false, false, false, false, false, false, false, false, false, false, false, false, false, false, false, false, false, false, false, false, false, false] rfl rfl (any_of HT_.out (by kernel_rfl)) (fun _ _ _ h => h) (Or.inl ⟨by rfl, ?_⟩) ?_ ?_
              rotate_left
              ·intro w'
               go_simp
               first | with_reducible rfl | (rw [if_neg (by have h1_ : (⟨#[10]⟩ : ByteArray).size = 1 := rfl; (try have hc8_ := of_decide_eq_true c8b1); (try have hc9_ := of_decide_eq_true c9b1); (try have hc10_ := of_decide_eq_true c10b1); (try have hc11_ := of_decide_eq_true c11b1); (try have hc13_ := of_decide_eq_true c13b1); (try simp only [ByteArray.size_append, ByteArray.size_extract] at hc8_); (try simp only [ByteArray.size_append, ByteArray.size_extract] at hc9_); (try simp only [ByteArray.size_append, ByteArray.size_extract] at hc10_); (try simp only [ByteArray.size_append, ByteArray.size_extract] at hc11_); (try simp only [ByteArray.size_append, ByteArray.size_extract] at hc13_); omega)]; try with_reducible rfl)
              rotate_left
              ·simp only [Act.put, List.setIfInBounds_toArray, List.set_cons_zero, List.set_cons_succ, i64_w, i32_w]
               rfl
              refine pure_ (i := 10) (N := some 57) (v := ?_) (a' := ?_) #[true, true, true, true, true, true, true, true, true, true, true, false, false, false, false, false, false, false, false, false, false, false, false, false, false, false, false, false, false, false, false, false, false, false, false, false, false, false] rfl rfl (any_of HT_.out (by kernel_rfl)) (fun _ _ _ h => h) (Or.inl ⟨by rfl, ?_⟩) ?_ ?_
              rotate_left
              ·intro w'
               go_simp
               first | with_reducible rfl | (rw [if_neg (by have h1_ : (⟨#[10]⟩ : ByteArray).size = 1 := rfl; (try have hc8_ := of_decide_eq_true c8b1); (try have hc9_ := of_decide_eq_true c9b1); (try have hc10_ := of_decide_eq_true c10b1); (try have hc11_ := of_decide_eq_true c11b1); (try have hc13_ := of_decide_eq_true c13b1); (try simp only [ByteArray.size_append, ByteArray.size_extract] at hc8_); (try simp only [ByteArray.size_append, ByteArray.size_extract] at hc9_); (try simp only [ByteArray.size_append, ByteArray.size_extract] at hc10_); (try simp only [ByteArray.size_append, ByteArray.size_extract] at hc11_); (try simp only [ByteArray.size_append, ByteArray.size_extract] at hc13_); omega)]; try with_reducible rfl)
              rotate_left
              ·simp only [Act.put, List.setIfInBounds_toArray, List.set_cons_zero, List.set_cons_succ, i64_w, i32_w]
               rfl
              refine pure_ (i := 11) (N := some 58) (v := ?_) (a' := ?_) #[true, true, true, true, true, true, true, true, true, true, true, true, false, false, false, false, false, false, false, false, false, false, false, false, false, false, false, false, false, false, false, false, false, false, false, false, false, false] rfl rfl (any_of HT_.out (by kernel_rfl)) (fun _ _ _ h => h) (Or.inl ⟨by rfl, ?_⟩) ?_ ?_
              rotate_left
              ·intro w'
               go_simp
               first | with_reducible rfl | (rw [if_neg (by have h1_ : (⟨#[10]⟩ : ByteArray).size = 1 := rfl; (try have hc8_ := of_decide_eq_true c8b1); (try have hc9_ := of_decide_eq_true c9b1); (try have hc10_ := of_decide_eq_true c10b1); (try have hc11_ := of_decide_eq_true c11b1); (try have hc13_ := of_decide_eq_true c13b1); (try simp only [ByteArray.size_append, ByteArray.size_extract] at hc8_); (try simp only [ByteArray.size_append, ByteArray.size_extract] at hc9_); (try simp only [ByteArray.size_append, ByteArray.size_extract] at hc10_); (try simp only [ByteArray.size_append, ByteArray.size_extract] at hc11_); (try simp only [ByteArray.size_append, ByteArray.size_extract] at hc13_); omega)]; try with_reducible rfl)
              rotate_left
              ·simp only [Act.put, List.setIfInBounds_toArray, List.set_cons_zero, List.set_cons_succ, i64_w, i32_w]
               rfl
              refine pure_ (i := 12) (N := some 59) (v := ?_) (a' := ?_) #[true, true, true, true, true, true, true, true, true, true, true, true, true, false, false, false, false, false, false, false, false, false, false, false, false, false, false, false, false, false, false, false, false, false, false, false, false, false] rfl rfl (any_of HT_.out (by kernel_rfl)) (fun _ _ _ h => h) (Or.inl ⟨by rfl, ?_⟩) ?_ ?_
              rotate_left
              ·intro w'
               go_simp
               first | with_reducible rfl | (rw [if_neg (by have h1_ : (⟨#[10]⟩ : ByteArray).size = 1 := rfl; (try have hc8_ := of_decide_eq_true c8b1); (try have hc9_ := of_decide_eq_true c9b1); (try have hc10_ := of_decide_eq_true c10b1); (try have hc11_ := of_decide_eq_true c11b1); (try have hc13_ := of_decide_eq_true c13b1); (try simp only [ByteArray.size_append, ByteArray.size_extract] at hc8_); (try simp only [ByteArray.size_append, ByteArray.size_extract] at hc9_); (try simp only [ByteArray.size_append, ByteArray.size_extract] at hc10_); (try simp only [ByteArray.size_append, ByteArray.size_extract] at hc11_); (try simp only [ByteArray.size_append, ByteArray.size_extract] at hc13_); omega)]; try with_reducible rfl)
              rotate_left
              ·simp only [Act.put, List.setIfInBounds_toArray, List.set_cons_zero, List.set_cons_succ, i64_w, i32_w]
               rfl
              refine take_ (i := 13) (N := some 60) (v := ?_) (a' := ?_) #[true, true, true, true, true, true, true, true, true, true, true, true, true, true, false, false, false, false, false, false, false, false, false, false, false, false, false, false, false, false, false, false, false, false, false, false, false, false] rfl rfl (take_ofW HT_.out HW_.out (by kernel_rfl)) (fun _ _ _ h => h) (Or.inl ⟨by rfl, ?_⟩) hHeld ?_ ?_
              rotate_left
              ·rintro w' ⟨s0, s1, s2, s3, s4, s5, s6, s7⟩
               go_simp
               first | with_reducible rfl | (rw [if_neg (by have h1_ : (⟨#[10]⟩ : ByteArray).size = 1 := rfl; (try have hc8_ := of_decide_eq_true c8b1); (try have hc9_ := of_decide_eq_true c9b1); (try have hc10_ := of_decide_eq_true c10b1); (try have hc11_ := of_decide_eq_true c11b1); (try have hc13_ := of_decide_eq_true c13b1); (try simp only [ByteArray.size_append, ByteArray.size_extract] at hc8_); (try simp only [ByteArray.size_append, ByteArray.size_extract] at hc9_); (try simp only [ByteArray.size_append, ByteArray.size_extract] at hc10_); (try simp only [ByteArray.size_append, ByteArray.size_extract] at hc11_); (try simp only [ByteArray.size_append, ByteArray.size_extract] at hc13_); omega)]; try with_reducible rfl)
              rotate_left
              ·simp only [Act.put, List.setIfInBounds_toArray, List.set_cons_zero, List.set_cons_succ, i64_w, i32_w]
               rfl
              refine pure_ (i := 14) (N := some 61) (v := ?_) (a' := ?_) #[true, true, true, true, true, true, true, true, true, true, true, true, true, true, true, false, false, false, false, false, false, false, false, false, false, false, false, false, false, false, false, false, false, false, false, false, false, false] rfl rfl (any_of HT_.out (by kernel_rfl)) (fun _ _ _ h => h) (Or.inl ⟨by rfl, ?_⟩) ?_ ?_
              rotate_left
              ·intro w'
               go_simp
               first | with_reducible rfl | (rw [if_neg (by have h1_ : (⟨#[10]⟩ : ByteArray).size = 1 := rfl; (try have hc8_ := of_decide_eq_true c8b1); (try have hc9_ := of_decide_eq_true c9b1); (try have hc10_ := of_decide_eq_true c10b1); (try have hc11_ := of_decide_eq_true c11b1); (try have hc13_ := of_decide_eq_true c13b1); (try simp only [ByteArray.size_append, ByteArray.size_extract] at hc8_); (try simp only [ByteArray.size_append, ByteArray.size_extract] at hc9_); (try simp only [ByteArray.size_append, ByteArray.size_extract] at hc10_); (try simp only [ByteArray.size_append, ByteArray.size_extract] at hc11_); (try simp only [ByteArray.size_append, ByteArray.size_extract] at hc13_); omega)]; try with_reducible rfl)
              rotate_left
              ·simp only [Act.put, List.setIfInBounds_toArray, List.set_cons_zero, List.set_cons_succ, i64_w, i32_w]
               rfl
              refine pure_ (i := 15) (N := some 62) (v := ?_) (a' := ?_) #[true, true, true, true, true, true, true, true, true, true, true, true, true, true, true, true, false, false, false, false, false, false, false, false, false, false, false, false, false, false, false, false, false, false, false, false, false, false] rfl rfl (any_of HT_.out (by kernel_rfl)) (fun _ _ _ h => h) (Or.inl ⟨by rfl, ?_⟩) ?_ ?_
              rotate_left
              ·intro w'
               go_simp
               first | with_reducible rfl | (rw [if_neg (by have h1_ : (⟨#[10]⟩ : ByteArray).size = 1 := rfl; (try have hc8_ := of_decide_eq_true c8b1); (try have hc9_ := of_decide_eq_true c9b1); (try have hc10_ := of_decide_eq_true c10b1); (try have hc11_ := of_decide_eq_true c11b1); (try have hc13_ := of_decide_eq_true c13b1); (try simp only [ByteArray.size_append, ByteArray.size_extract] at hc8_); (try simp only [ByteArray.size_append, ByteArray.size_extract] at hc9_); (try simp only [ByteArray.size_append, ByteArray.size_extract] at hc10_); (try simp only [ByteArray.size_append, ByteArray.size_extract] at hc11_); (try simp only [ByteArray.size_append, ByteArray.size_extract] at hc13_); omega)]; try with_reducible rfl)
              rotate_left
              ·simp only [Act.put, List.setIfInBounds_toArray, List.set_cons_zero, List.set_cons_succ, i64_w, i32_w]
               rfl
              refine pure_ (i := 16) (N := some 63) (v := ?_) (a' := ?_) #[true, true, true, true, true, true, true, true, true, true, true, true, true, true, true, true, true, false, false, false, false, false, false, false, false, false, false, false, false, false, false, false, false, false, false, false, false, false] rfl rfl (any_of HT_.out (by kernel_rfl)) (fun _ _ _ h => h) (Or.inl ⟨by rfl, ?_⟩) ?_ ?_
              rotate_left
              ·intro w'
               go_simp
               first | with_reducible rfl | (rw [if_neg (by have h1_ : (⟨#[10]⟩ : ByteArray).size = 1 := rfl; (try have hc8_ := of_decide_eq_true c8b1); (try have hc9_ := of_decide_eq_true c9b1); (try have hc10_ := of_decide_eq_true c10b1); (try have hc11_ := of_decide_eq_true c11b1); (try have hc13_ := of_decide_eq_true c13b1); (try simp only [ByteArray.size_append, ByteArray.size_extract] at hc8_); (try simp only [ByteArray.size_append, ByteArray.size_extract] at hc9_); (try simp only [ByteArray.size_append, ByteArray.size_extract] at hc10_); (try simp only [ByteArray.size_append, ByteArray.size_extract] at hc11_); (try simp only [ByteArray.size_append, ByteArray.size_extract] at hc13_); omega)]; try with_reducible rfl)
              rotate_left
              ·simp only [Act.put, List.setIfInBounds_toArray, List.set_cons_zero, List.set_cons_succ, i64_w, i32_w]
               rfl
              refine pure_ (i := 17) (N := some 64) (v := undef) (a' := ?_) #[true, true, true, true, true, true, true, true, true, true, true, true, true, true, true, true, true, true, false, false, false, false, false, false, false, false, false, false, false, false, false, false, false, false, false, false, false, false] rfl rfl (any_of HT_.out (by kernel_rfl)) (fun _ _ _ h => h) (Or.inr ⟨by rfl, rfl⟩) ?_ ?_
              rotate_left
              ·simp only [Act.put, List.setIfInBounds_toArray, List.set_cons_zero, List.set_cons_succ, i64_w, i32_w]
               rfl
              refine pure_ (i := 18) (N := some 65) (v := undef) (a' := ?_) #[true, true, true, true, true, true, true, true, true, true, true, true, true, true, true, true, true, true, true, false, false, false, false, false, false, false, false, false, false, false, false, false, false, false, false, false, false, false] rfl rfl (any_of HT_.out (by kernel_rfl)) (fun _ _ _ h => h) (Or.inr ⟨by rfl, rfl⟩) ?_ ?_
              rotate_left
              ·simp only [Act.put, List.setIfInBounds_toArray, List.set_cons_zero, List.set_cons_succ, i64_w, i32_w]
               rfl
              refine pure_ (i := 19) (N := some 66) (v := undef) (a' := ?_) #[true, true, true, true, true, true, true, true, true, true, true, true, true, true, true, true, true, true, true, true, false, false, false, false, false, false, false, false, false, false, false, false, false, false, false, false, false, false] rfl rfl (any_of HT_.out (by kernel_rfl)) (fun _ _ _ h => h) (Or.inr ⟨by rfl, rfl⟩) ?_ ?_
              rotate_left
              ·simp only [Act.put, List.setIfInBounds_toArray, List.set_cons_zero, List.set_cons_succ, i64_w, i32_w]
               rfl
              refine pure_ (i := 20) (N := some 67) (v := undef) (a' := ?_) #[true, true, true, true, true, true, true, true, true, true, true, true, true, true, true, true, true, true, true, true, true, false, false, false, false, false, false, false, false, false, false, false, false, false, false, false, false, false] rfl rfl (any_of HT_.out (by kernel_rfl)) (fun _ _ _ h => h) (Or.inr ⟨by rfl, rfl⟩) ?_ ?_
              rotate_left
              ·simp only [Act.put, List.setIfInBounds_toArray, List.set_cons_zero, List.set_cons_succ, i64_w, i32_w]
               rfl
              refine pure_ (i := 21) (N := some 68) (v := undef) (a' := ?_) #[true, true, true, true, true, true, true, true, true, true, true, true, true, true, true, true, true, true, true, true, true, true, false, false, false, false, false, false, false, false, false, false, false, false, false, false, false, false] rfl rfl (any_of HT_.out (by kernel_rfl)) (fun _ _ _ h => h) (Or.inr ⟨by rfl, rfl⟩) ?_ ?_
              rotate_left
              ·simp only [Act.put, List.setIfInBounds_toArray, List.set_cons_zero, List.set_cons_succ, i64_w, i32_w]
               rfl
              refine pure_ (i := 22) (N := some 69) (v := undef) (a' := ?_) #[true, true, true, true, true, true, true, true, true, true, true, true, true, true, true, true, true, true, true, true, true, true, true, false, false, false, false, false, false, false, false, false, false, false, false, false, false, false] rfl rfl (any_of HT_.out (by kernel_rfl)) (fun _ _ _ h => h) (Or.inr ⟨by rfl, rfl⟩) ?_ ?_
              rotate_left
              ·simp only [Act.put, List.setIfInBounds_toArray, List.set_cons_zero, List.set_cons_succ, i64_w, i32_w]
               rfl
              refine pure_ (i := 23) (N := some 70) (v := ?_) (a' := ?_) #[true, true, true, true, true, true, true, true, true, true, true, true, true, true, true, true, true, true, true, true, true, true, true, true, false, false, false, false, false, false, false, false, false, false, false, false, false, false] rfl rfl (any_of HT_.out (by kernel_rfl)) (fun _ _ _ h => h) (Or.inl ⟨by rfl, ?_⟩) ?_ ?_
              rotate_left
              ·intro w'
               go_simp
               first | with_reducible rfl | (rw [if_neg (by have h1_ : (⟨#[10]⟩ : ByteArray).size = 1 := rfl; (try have hc8_ := of_decide_eq_true c8b1); (try have hc9_ := of_decide_eq_true c9b1); (try have hc10_ := of_decide_eq_true c10b1); (try have hc11_ := of_decide_eq_true c11b1); (try have hc13_ := of_decide_eq_true c13b1); (try simp only [ByteArray.size_append, ByteArray.size_extract] at hc8_); (try simp only [ByteArray.size_append, ByteArray.size_extract] at hc9_); (try simp only [ByteArray.size_append, ByteArray.size_extract] at hc10_); (try simp only [ByteArray.size_append, ByteArray.size_extract] at hc11_); (try simp only [ByteArray.size_append, ByteArray.size_extract] at hc13_); omega)]; try with_reducible rfl)
              rotate_left
              ·simp only [Act.put, List.setIfInBounds_toArray, List.set_cons_zero, List.set_cons_succ, i64_w, i32_w]
               rfl
              refine pure_ (i := 24) (N := some 71) (v := ?_) (a' := ?_) #[true, true, true, true, true, true, true, true, true, true, true, true, true, true, true, true, true, true, true, true, true, true, true, true, true, false, false, false, false, false, false, false, false, false, false, false, false, false] rfl rfl (any_of HT_.out (by kernel_rfl)) (fun _ _ _ h => h) (Or.inl ⟨by rfl, ?_⟩) ?_ ?_
              rotate_left
              ·intro w'
               go_simp
               first | with_reducible rfl | (rw [if_neg (by have h1_ : (⟨#[10]⟩ : ByteArray).size = 1 := rfl; (try have hc8_ := of_decide_eq_true c8b1); (try have hc9_ := of_decide_eq_true c9b1); (try have hc10_ := of_decide_eq_true c10b1); (try have hc11_ := of_decide_eq_true c11b1); (try have hc13_ := of_decide_eq_true c13b1); (try simp only [ByteArray.size_append, ByteArray.size_extract] at hc8_); (try simp only [ByteArray.size_append, ByteArray.size_extract] at hc9_); (try simp only [ByteArray.size_append, ByteArray.size_extract] at hc10_); (try simp only [ByteArray.size_append, ByteArray.size_extract] at hc11_); (try simp only [ByteArray.size_append, ByteArray.size_extract] at hc13_); omega)]; try with_reducible rfl)
              rotate_left
              ·simp only [Act.put, List.setIfInBounds_toArray, List.set_cons_zero, List.set_cons_succ, i64_w, i32_w]
               rfl
              refine pure_ (i := 25) (N := some 72) (v := undef) (a' := ?_) #[true, true, true, true, true, true, true, true, true, true, true, true, true, true, true, true, true, true, true, true, true, true, true, true, true, true, false, false, false, false, false, false, false, false, false, false, false, false] rfl rfl (any_of HT_.out (by kernel_rfl)) (fun _ _ _ h => h) (Or.inr ⟨by rfl, rfl⟩) ?_ ?_
              rotate_left
              ·simp only [Act.put, List.setIfInBounds_toArray, List.set_cons_zero, List.set_cons_succ, i64_w, i32_w]
               rfl
              refine pure_ (i := 26) (N := some 73) (v := undef) (a' := ?_) #[true, true, true, true, true, true, true, true, true, true, true, true, true, true, true, true, true, true, true, true, true, true, true, true, true, true, true, false, false, false, false, false, false, false, false, false, false, false] rfl rfl (any_of HT_.out (by kernel_rfl)) (fun _ _ _ h => h) (Or.inr ⟨by rfl, rfl⟩) ?_ ?_
              rotate_left
              ·simp only [Act.put, List.setIfInBounds_toArray, List.set_cons_zero, List.set_cons_succ, i64_w, i32_w]
               rfl
              refine pure_ (i := 27) (N := some 74) (v := undef) (a' := ?_) #[true, true, true, true, true, true, true, true, true, true, true, true, true, true, true, true, true, true, true, true, true, true, true, true, true, true, true, true, false, false, false, false, false, false, false, false, false, false] rfl rfl (any_of HT_.out (by kernel_rfl)) (fun _ _ _ h => h) (Or.inr ⟨by rfl, rfl⟩) ?_ ?_
              rotate_left
              ·simp only [Act.put, List.setIfInBounds_toArray, List.set_cons_zero, List.set_cons_succ, i64_w, i32_w]
               rfl
              refine pure_ (i := 28) (N := some 75) (v := undef) (a' := ?_) #[true, true, true, true, true, true, true, true, true, true, true, true, true, true, true, true, true, true, true, true, true, true, true, true, true, true, true, true, true, false, false, false, false, false, false, false, false, false] rfl rfl (any_of HT_.out (by kernel_rfl)) (fun _ _ _ h => h) (Or.inr ⟨by rfl, rfl⟩) ?_ ?_
              rotate_left
              ·simp only [Act.put, List.setIfInBounds_toArray, List.set_cons_zero, List.set_cons_succ, i64_w, i32_w]
               rfl
              refine pure_ (i := 29) (N := some 76) (v := undef) (a' := ?_) #[true, true, true, true, true, true, true, true, true, true, true, true, true, true, true, true, true, true, true, true, true, true, true, true, true, true, true, true, true, true, false, false, false, false, false, false, false, false] rfl rfl (any_of HT_.out (by kernel_rfl)) (fun _ _ _ h => h) (Or.inr ⟨by rfl, rfl⟩) ?_ ?_
              rotate_left
              ·simp only [Act.put, List.setIfInBounds_toArray, List.set_cons_zero, List.set_cons_succ, i64_w, i32_w]
               rfl
              refine pure_ (i := 30) (N := some 77) (v := undef) (a' := ?_) #[true, true, true, true, true, true, true, true, true, true, true, true, true, true, true, true, true, true, true, true, true, true, true, true, true, true, true, true, true, true, true, false, false, false, false, false, false, false] rfl rfl (any_of HT_.out (by kernel_rfl)) (fun _ _ _ h => h) (Or.inr ⟨by rfl, rfl⟩) ?_ ?_
              rotate_left
              ·simp only [Act.put, List.setIfInBounds_toArray, List.set_cons_zero, List.set_cons_succ, i64_w, i32_w]
               rfl
              refine pure_ (i := 31) (N := some 78) (v := undef) (a' := ?_) #[true, true, true, true, true, true, true, true, true, true, true, true, true, true, true, true, true, true, true, true, true, true, true, true, true, true, true, true, true, true, true, true, false, false, false, false, false, false] rfl rfl (any_of HT_.out (by kernel_rfl)) (fun _ _ _ h => h) (Or.inr ⟨by rfl, rfl⟩) ?_ ?_
              rotate_left
              ·simp only [Act.put, List.setIfInBounds_toArray, List.set_cons_zero, List.set_cons_succ, i64_w, i32_w]
               rfl
              refine pure_ (i := 32) (N := some 79) (v := undef) (a' := ?_) #[true, true, true, true, true, true, true, true, true, true, true, true, true, true, true, true, true, true, true, true, true, true, true, true, true, true, true, true, true, true, true, true, true, false, false, false, false, false] rfl rfl (any_of HT_.out (by kernel_rfl)) (fun _ _ _ h => h) (Or.inr ⟨by rfl, rfl⟩) ?_ ?_
              rotate_left
              ·simp only [Act.put, List.setIfInBounds_toArray, List.set_cons_zero, List.set_cons_succ, i64_w, i32_w]
               rfl
              refine pure_ (i := 33) (N := some 80) (v := undef) (a' := ?_) #[true, true, true, true, true, true, true, true, true, true, true, true, true, true, true, true, true, true, true, true, true, true, true, true, true, true, true, true, true, true, true, true, true, true, false, false, false, false] rfl rfl (any_of HT_.out (by kernel_rfl)) (fun _ _ _ h => h) (Or.inr ⟨by rfl, rfl⟩) ?_ ?_
              rotate_left
              ·simp only [Act.put, List.setIfInBounds_toArray, List.set_cons_zero, List.set_cons_succ, i64_w, i32_w]
               rfl
              refine pure_ (i := 34) (N := some 81) (v := undef) (a' := ?_) #[true, true, true, true, true, true, true, true, true, true, true, true, true, true, true, true, true, true, true, true, true, true, true, true, true, true, true, true, true, true, true, true, true, true, true, false, false, false] rfl rfl (any_of HT_.out (by kernel_rfl)) (fun _ _ _ h => h) (Or.inr ⟨by rfl, rfl⟩) ?_ ?_
              rotate_left
              ·simp only [Act.put, List.setIfInBounds_toArray, List.set_cons_zero, List.set_cons_succ, i64_w, i32_w]
               rfl
              refine pure_ (i := 35) (N := some 82) (v := undef) (a' := ?_) #[true, true, true, true, true, true, true, true, true, true, true, true, true, true, true, true, true, true, true, true, true, true, true, true, true, true, true, true, true, true, true, true, true, true, true, true, false, false] rfl rfl (any_of HT_.out (by kernel_rfl)) (fun _ _ _ h => h) (Or.inr ⟨by rfl, rfl⟩) ?_ ?_
              rotate_left
              ·simp only [Act.put, List.setIfInBounds_toArray, List.set_cons_zero, List.set_cons_succ, i64_w, i32_w]
               rfl
              refine pure_ (i := 36) (N := some 83) (v := ?_) (a' := ?_) #[true, true, true, true, true, true, true, true, true, true, true, true, true, true, true, true, true, true, true, true, true, true, true, true, true, true, true, true, true, true, true, true, true, true, true, true, true, false] rfl rfl (any_of HT_.out (by kernel_rfl)) (fun _ _ _ h => h) (Or.inl ⟨by rfl, ?_⟩) ?_ ?_
              rotate_left
              ·intro w'
               go_simp
               first | with_reducible rfl | (rw [if_neg (by have h1_ : (⟨#[10]⟩ : ByteArray).size = 1 := rfl; (try have hc8_ := of_decide_eq_true c8b1); (try have hc9_ := of_decide_eq_true c9b1); (try have hc10_ := of_decide_eq_true c10b1); (try have hc11_ := of_decide_eq_true c11b1); (try have hc13_ := of_decide_eq_true c13b1); (try simp only [ByteArray.size_append, ByteArray.size_extract] at hc8_); (try simp only [ByteArray.size_append, ByteArray.size_extract] at hc9_); (try simp only [ByteArray.size_append, ByteArray.size_extract] at hc10_); (try simp only [ByteArray.size_append, ByteArray.size_extract] at hc11_); (try simp only [ByteArray.size_append, ByteArray.size_extract] at hc13_); omega)]; try with_reducible rfl)
              rotate_left
              ·simp only [Act.put, List.setIfInBounds_toArray, List.set_cons_zero, List.set_cons_succ, i64_w, i32_w]
               rfl
              refine pure_ (i := 37) (N := some 6) (v := ?_) (a' := ?_) #[true, true, true, true, true, true, true, true, true, true, true, true, true, true, true, true, true, true, true, true, true, true, true, true, true, true, true, true, true, true, true, true, true, true, true, true, true, true] rfl rfl (any_of HT_.out (by kernel_rfl)) (fun _ _ _ h => h) (Or.inl ⟨by rfl, ?_⟩) ?_ ?_
              rotate_left
              ·intro w'
               go_simp
               first | with_reducible rfl | (rw [if_neg (by have h1_ : (⟨#[10]⟩ : ByteArray).size = 1 := rfl; (try have hc8_ := of_decide_eq_true c8b1); (try have hc9_ := of_decide_eq_true c9b1); (try have hc10_ := of_decide_eq_true c10b1); (try have hc11_ := of_decide_eq_true c11b1); (try have hc13_ := of_decide_eq_true c13b1); (try simp only [ByteArray.size_append, ByteArray.size_extract] at hc8_); (try simp only [ByteArray.size_append, ByteArray.size_extract] at hc9_); (try simp only [ByteArray.size_append, ByteArray.size_extract] at hc10_); (try simp only [ByteArray.size_append, ByteArray.size_extract] at hc11_); (try simp only [ByteArray.size_append, ByteArray.size_extract] at hc13_); omega)]; try with_reducible rfl)
              rotate_left
              ·simp only [Act.put, List.setIfInBounds_toArray, List.set_cons_zero, List.set_cons_succ, i64_w, i32_w]
               rfl
              refine done_ (done_of HT_.out (by kernel_rfl)) ?_
              try go_wp2
              go_ret
              exact ⟨by first | rfl | (simp [errW_none, errW_some] <;> rfl) | (simp only [← hji7]; first | rfl | (simp [errW_none, errW_some] <;> rfl)) | (simp [*, errW_none, errW_some] <;> rfl), by repeat (first | (with_reducible first | exact HB.out | apply below_alloc | apply pw_below_drewN | apply below_drew1) | exact HB.out)⟩
            ·rw [if_neg c20] at H
             exact absurd H (by simp)
           ·rw [if_neg c19] at H
            have c19b0 : (((rd_T30 t225 0).f0) == 1 && ((((rd_T30 t225 0).f1).toList) == a0.toList && (((rd_T30 t225 0).f2) == 0 && (((rd_T30 t225 0).f3) == 0)))) = false := by simpa using c19
            (try (have c19b1 : decide (((rd_T30 t225 0).f0) = 1 && ((((rd_T30 t225 0).f1).toList) == a0.toList && (((rd_T30 t225 0).f2) == 0 && (((rd_T30 t225 0).f3) == 0)))) = false := by simpa using c19))
            (try (have c19b2 : (((rd_T30 t225 0).f0) == 1 && ((((rd_T30 t225 0).f1).toList) == a0.toList && (((rd_T30 t225 0).f2) == 0 && (((rd_T30 t225 0).f3) == 0)))) = false := by simpa using c19))
            (try (have c19b3 : ¬ (((rd_T30 t225 0).f0) = 1 && ((((rd_T30 t225 0).f1).toList) == a0.toList && (((rd_T30 t225 0).f2) == 0 && (((rd_T30 t225 0).f3) == 0)))) := by simpa using c19))
            clear c19
            obtain rfl := Option.some.inj H
            go_enter Tryd.func10, Tryd.ntmps10
            try go_wp2_with (first | ((with_reducible refine gate_callee (f := 11) rfl ?_); refine goesL_ (some 13) rfl rfl Tryd.func11 (by kernel_rfl) rfl #[] rfl (by (try simp only [List.map_toArray, List.map_cons, List.map_nil]); first | done | rfl | (simp only [List.length_drop, List.length_take]; rfl)) ?_; (with_reducible refine (pandectlaw05_head.calls  true _ A4.out).mono ?_); rintro e w37 ⟨rfl, hb⟩; refine ⟨_, rfl, ?_⟩; have n0_ := Aside0.mk (below_step (by repeat (first | (with_reducible first | exact HB.out | apply below_alloc | apply pw_below_drewN | apply below_drew1) | exact HB.out)) hb); clear HB; have HB := n0_; clear n0_; (try clear hb); (try clear hb2); (try clear hk); (try clear hi)) | ((with_reducible refine gate_callee (f := 18) rfl ?_); refine goesL_ (some 15) rfl rfl Tryd.func18 (by kernel_rfl) rfl #[.string a0] rfl (by (try simp only [List.map_toArray, List.map_cons, List.map_nil]); first | done | rfl | (simp only [List.length_drop, List.length_take]; rfl)) ?_; (with_reducible refine (pandectref05_Name.calls k a0 true _ A5.out).mono ?_); rintro e w' ⟨rfl, ⟨nd, rfl⟩⟩; refine ⟨_, rfl, ?_⟩) | ((with_reducible refine gate_callee (f := 19) rfl ?_); refine goesL_ (some 34) rfl rfl Tryd.func19 (by kernel_rfl) rfl #[.int .i64 (wrap64 (Int.tmod a1 10000000))] rfl (by (try simp only [List.map_toArray, List.map_cons, List.map_nil]); first | done | rfl | (simp only [List.length_drop, List.length_take]; rfl)) ?_; (with_reducible refine (pandectref05_Decimal.calls k (wrap64 (Int.tmod a1 10000000)) t224 _ A12.out).mono ?_); rintro e w' ⟨rfl, ⟨nd, rfl⟩⟩; refine ⟨_, rfl, ?_⟩) | ((with_reducible refine gate_callee (f := 12) rfl ?_); refine goesL_ (some 36) rfl rfl Tryd.func12 (by kernel_rfl) rfl #[.string ((a0 ++ ((⟨#[61, 59, 60, 62, 40, 41, 123, 125, 91, 93, 44, 46, 58]⟩ : ByteArray).extract ((ji7) : Int).toNat ((wrap64 ((ji7) + 1)) : Int).toNat)) ++ t224)] rfl (by (try simp only [List.map_toArray, List.map_cons, List.map_nil]); first | done | (simp only [hji7]; rfl) | rfl | (simp only [List.length_drop, List.length_take]; rfl)) ?_; (with_reducible refine (lexer_Lex.calls ((a0 ++ ((⟨#[61, 59, 60, 62, 40, 41, 123, 125, 91, 93, 44, 46, 58]⟩ : ByteArray).extract ((ji7) : Int).toNat ((wrap64 ((ji7) + 1)) : Int).toNat)) ++ t224) t225 t226 t227 _ A14.out).mono ?_); rintro e w38 ⟨v228, rfl, ho0, hb⟩; refine ⟨_, rfl, ?_⟩; have n0_ := Aside0.mk (Kd.R_lower ho0 (below_size (by repeat (first | (with_reducible first | exact HB.out | apply below_alloc | apply pw_below_drewN | apply below_drew1) | exact HB.out)))); have n1_ := Aside0.mk (below_step (by repeat (first | (with_reducible first | exact HB.out | apply below_alloc | apply pw_below_drewN | apply below_drew1) | exact HB.out)) hb); clear HB; have HO229 := n0_; have HB := n1_; clear n0_ n1_; (try clear hb); (try clear hb2); (try clear hk); (try clear hi); (try clear ho0); obtain ⟨Ao39, co39, eo39⟩ := Kd.R_slice HO229.out; subst eo39))
            have n0_ := Aside0.mk (Kd.R_drew HO229.out)
            have n1_ := Aside0.mk (below_drew1 HB.out)
            clear HO229
            clear HB
            have HO229 := n0_
            have HB := n1_
            clear n0_ n1_
            have p230 : 0 ≤ (0 : Int) := (by omega)
            have q230 : 0 < (t225.length : Int) := of_decide_eq_true (by first | (with_reducible assumption) | assumption)
            obtain ⟨ad230, e230, hx230_0, hx230_1, hx230_2, hx230_3⟩ := at_T30 (Kd.R_reads' HO229.out).2.2 0 p230 q230
            cases e230
            have qi230 : (0 < t225.length) = True := eq_true (by omega)
            (try rw [show ((0 : Int)).toNat = 0 from rfl] at hx230_0)
            (try rw [show 0 * 4 = 0 from rfl] at hx230_0)
            (try rw [Addr.add_zero'] at hx230_0)
            (try rw [show ((0 : Int)).toNat = 0 from rfl] at hx230_1)
            (try rw [show 0 * 4 = 0 from rfl] at hx230_1)
            (try rw [Addr.add_zero'] at hx230_1)
            (try rw [show ((0 : Int)).toNat = 0 from rfl] at hx230_2)
            (try rw [show 0 * 4 = 0 from rfl] at hx230_2)
            (try rw [Addr.add_zero'] at hx230_2)
            (try rw [show ((0 : Int)).toNat = 0 from rfl] at hx230_3)
            (try rw [show 0 * 4 = 0 from rfl] at hx230_3)
            (try rw [Addr.add_zero'] at hx230_3)
            replace p230 := eq_true p230
            replace q230 := eq_true q230
            refine start_ (n := 38) (S := fun w' => w'.cell? ad230 = some (.int .i64 ((rd_T30 t225 0).f0)) ∧ w'.cell? ⟨ad230.block, ad230.off + 1, none⟩ = some (.string ((rd_T30 t225 0).f1)) ∧ w'.cell? ⟨ad230.block, ad230.off + 2, none⟩ = some (.int .i64 ((rd_T30 t225 0).f2)) ∧ w'.cell? ⟨ad230.block, ad230.off + 3, none⟩ = some (.int .i64 ((rd_T30 t225 0).f3))) (ds := []) #[false, false, false, false, false, false, false, false, false, false, false, false, false, false, false, false, false, false, false, false, false, false, false, false, false, false, false, false, false, false, false, false, false, false, false, false, false, false] (by kernel_rfl) rfl rfl ⟨hx230_0, hx230_1, hx230_2, hx230_3⟩ (fun hHeld => ?_); refine with_tabW pandectlaw05_LexerWords.tab9 pandectlaw05_LexerWords.bits9 (fun HT_ HW_ => ?_)
            generalize w38.drew = w40 at HO229 HB hx230_0 hx230_1 hx230_2 hx230_3 hHeld ⊢
            refine pure_ (i := 0) (N := some 47) (v := ?_) (a' := ?_) #[true, false, false, false, false, false, false, false, false, false, false, false, false, false, false, false, false, false, false, false, false, false, false, false, false, false, false, false, false, false, false, false, false, false, false, false, false, false] rfl rfl (any_of HT_.out (by kernel_rfl)) (fun _ _ _ h => h) (Or.inl ⟨by rfl, ?_⟩) ?_ ?_
            rotate_left
            ·intro w'
             go_simp
             first | with_reducible rfl | (rw [if_neg (by have h1_ : (⟨#[10]⟩ : ByteArray).size = 1 := rfl; (try have hc8_ := of_decide_eq_true c8b1); (try have hc9_ := of_decide_eq_true c9b1); (try have hc10_ := of_decide_eq_true c10b1); (try have hc11_ := of_decide_eq_true c11b1); (try have hc13_ := of_decide_eq_true c13b1); (try simp only [ByteArray.size_append, ByteArray.size_extract] at hc8_); (try simp only [ByteArray.size_append, ByteArray.size_extract] at hc9_); (try simp only [ByteArray.size_append, ByteArray.size_extract] at hc10_); (try simp only [ByteArray.size_append, ByteArray.size_extract] at hc11_); (try simp only [ByteArray.size_append, ByteArray.size_extract] at hc13_); omega)]; try with_reducible rfl)
            rotate_left
            ·simp only [Act.put, List.setIfInBounds_toArray, List.set_cons_zero, List.set_cons_succ, i64_w, i32_w]
             rfl
            refine pure_ (i := 1) (N := some 48) (v := ?_) (a' := ?_) #[true, true, false, false, false, false, false, false, false, false, false, false, false, false, false, false, false, false, false, false, false, false, false, false, false, false, false, false, false, false, false, false, false, false, false, false, false, false] rfl rfl (any_of HT_.out (by kernel_rfl)) (fun _ _ _ h => h) (Or.inl ⟨by rfl, ?_⟩) ?_ ?_
            rotate_left
            ·intro w'
             go_simp
             first | with_reducible rfl | (rw [if_neg (by have h1_ : (⟨#[10]⟩ : ByteArray).size = 1 := rfl; (try have hc8_ := of_decide_eq_true c8b1); (try have hc9_ := of_decide_eq_true c9b1); (try have hc10_ := of_decide_eq_true c10b1); (try have hc11_ := of_decide_eq_true c11b1); (try have hc13_ := of_decide_eq_true c13b1); (try simp only [ByteArray.size_append, ByteArray.size_extract] at hc8_); (try simp only [ByteArray.size_append, ByteArray.size_extract] at hc9_); (try simp only [ByteArray.size_append, ByteArray.size_extract] at hc10_); (try simp only [ByteArray.size_append, ByteArray.size_extract] at hc11_); (try simp only [ByteArray.size_append, ByteArray.size_extract] at hc13_); omega)]; try with_reducible rfl)
            rotate_left
            ·simp only [Act.put, List.setIfInBounds_toArray, List.set_cons_zero, List.set_cons_succ, i64_w, i32_w]
             rfl
            refine pure_ (i := 2) (N := some 49) (v := ?_) (a' := ?_) #[true, true, true, false, false, false, false, false, false, false, false, false, false, false, false, false, false, false, false, false, false, false, false, false, false, false, false, false, false, false, false, false, false, false, false, false, false, false] rfl rfl (any_of HT_.out (by kernel_rfl)) (fun _ _ _ h => h) (Or.inl ⟨by rfl, ?_⟩) ?_ ?_
            rotate_left
            ·intro w'
             go_simp
             first | with_reducible rfl | (rw [if_neg (by have h1_ : (⟨#[10]⟩ : ByteArray).size = 1 := rfl; (try have hc8_ := of_decide_eq_true c8b1); (try have hc9_ := of_decide_eq_true c9b1); (try have hc10_ := of_decide_eq_true c10b1); (try have hc11_ := of_decide_eq_true c11b1); (try have hc13_ := of_decide_eq_true c13b1); (try simp only [ByteArray.size_append, ByteArray.size_extract] at hc8_); (try simp only [ByteArray.size_append, ByteArray.size_extract] at hc9_); (try simp only [ByteArray.size_append, ByteArray.size_extract] at hc10_); (try simp only [ByteArray.size_append, ByteArray.size_extract] at hc11_); (try simp only [ByteArray.size_append, ByteArray.size_extract] at hc13_); omega)]; try with_reducible rfl)
            rotate_left
            ·simp only [Act.put, List.setIfInBounds_toArray, List.set_cons_zero, List.set_cons_succ, i64_w, i32_w]
             rfl
            refine pure_ (i := 3) (N := some 50) (v := ?_) (a' := ?_) #[true, true, true, true, false, false, false, false, false, false, false, false, false, false, false, false, false, false, false, false, false, false, false, false, false, false, false, false, false, false, false, false, false, false, false, false, false, false] rfl rfl (any_of HT_.out (by kernel_rfl)) (fun _ _ _ h => h) (Or.inl ⟨by rfl, ?_⟩) ?_ ?_
            rotate_left
            ·intro w'
             go_simp
             first | with_reducible rfl | (rw [if_neg (by have h1_ : (⟨#[10]⟩ : ByteArray).size = 1 := rfl; (try have hc8_ := of_decide_eq_true c8b1); (try have hc9_ := of_decide_eq_true c9b1); (try have hc10_ := of_decide_eq_true c10b1); (try have hc11_ := of_decide_eq_true c11b1); (try have hc13_ := of_decide_eq_true c13b1); (try simp only [ByteArray.size_append, ByteArray.size_extract] at hc8_); (try simp only [ByteArray.size_append, ByteArray.size_extract] at hc9_); (try simp only [ByteArray.size_append, ByteArray.size_extract] at hc10_); (try simp only [ByteArray.size_append, ByteArray.size_extract] at hc11_); (try simp only [ByteArray.size_append, ByteArray.size_extract] at hc13_); omega)]; try with_reducible rfl)
            rotate_left
            ·simp only [Act.put, List.setIfInBounds_toArray, List.set_cons_zero, List.set_cons_succ, i64_w, i32_w]
             rfl
            refine pure_ (i := 5) (N := some 52) (v := ?_) (a' := ?_) #[true, true, true, true, false, true, false, false, false, false, false, false, false, false, false, false, false, false, false, false, false, false, false, false, false, false, false, false, false, false, false, false, false, false, false, false, false, false] rfl rfl (any_of HT_.out (by kernel_rfl)) (fun _ _ _ h => h) (Or.inl ⟨by rfl, ?_⟩) ?_ ?_
            rotate_left
            ·intro w'
             go_simp
             first | with_reducible rfl | (rw [if_neg (by have h1_ : (⟨#[10]⟩ : ByteArray).size = 1 := rfl; (try have hc8_ := of_decide_eq_true c8b1); (try have hc9_ := of_decide_eq_true c9b1); (try have hc10_ := of_decide_eq_true c10b1); (try have hc11_ := of_decide_eq_true c11b1); (try have hc13_ := of_decide_eq_true c13b1); (try simp only [ByteArray.size_append, ByteArray.size_extract] at hc8_); (try simp only [ByteArray.size_append, ByteArray.size_extract] at hc9_); (try simp only [ByteArray.size_append, ByteArray.size_extract] at hc10_); (try simp only [ByteArray.size_append, ByteArray.size_extract] at hc11_); (try simp only [ByteArray.size_append, ByteArray.size_extract] at hc13_); omega)]; try with_reducible rfl)
            rotate_left
            ·simp only [Act.put, List.setIfInBounds_toArray, List.set_cons_zero, List.set_cons_succ, i64_w, i32_w]
             rfl
            refine pure_ (i := 6) (N := some 53) (v := ?_) (a' := ?_) #[true, true, true, true, false, true, true, false, false, false, false, false, false, false, false, false, false, false, false, false, false, false, false, false, false, false, false, false, false, false, false, false, false, false, false, false, false, false] rfl rfl (any_of HT_.out (by kernel_rfl)) (fun _ _ _ h => h) (Or.inl ⟨by rfl, ?_⟩) ?_ ?_
            rotate_left
            ·intro w'
             go_simp
             first | with_reducible rfl | (rw [if_neg (by have h1_ : (⟨#[10]⟩ : ByteArray).size = 1 := rfl; (try have hc8_ := of_decide_eq_true c8b1); (try have hc9_ := of_decide_eq_true c9b1); (try have hc10_ := of_decide_eq_true c10b1); (try have hc11_ := of_decide_eq_true c11b1); (try have hc13_ := of_decide_eq_true c13b1); (try simp only [ByteArray.size_append, ByteArray.size_extract] at hc8_); (try simp only [ByteArray.size_append, ByteArray.size_extract] at hc9_); (try simp only [ByteArray.size_append, ByteArray.size_extract] at hc10_); (try simp only [ByteArray.size_append, ByteArray.size_extract] at hc11_); (try simp only [ByteArray.size_append, ByteArray.size_extract] at hc13_); omega)]; try with_reducible rfl)
            rotate_left
            ·simp only [Act.put, List.setIfInBounds_toArray, List.set_cons_zero, List.set_cons_succ, i64_w, i32_w]
             rfl
            refine take_ (i := 4) (N := some 51) (v := ?_) (a' := ?_) #[true, true, true, true, true, true, true, false, false, false, false, false, false, false, false, false, false, false, false, false, false, false, false, false, false, false, false, false, false, false, false, false, false, false, false, false, false, false] rfl rfl (take_ofW HT_.out HW_.out (by kernel_rfl)) (fun _ _ _ h => h) (Or.inl ⟨by rfl, ?_⟩) hHeld ?_ ?_
            rotate_left
            ·rintro w' ⟨s0, s1, s2, s3⟩
             go_simp
             first | with_reducible rfl | (rw [if_neg (by have h1_ : (⟨#[10]⟩ : ByteArray).size = 1 := rfl; (try have hc8_ := of_decide_eq_true c8b1); (try have hc9_ := of_decide_eq_true c9b1); (try have hc10_ := of_decide_eq_true c10b1); (try have hc11_ := of_decide_eq_true c11b1); (try have hc13_ := of_decide_eq_true c13b1); (try simp only [ByteArray.size_append, ByteArray.size_extract] at hc8_); (try simp only [ByteArray.size_append, ByteArray.size_extract] at hc9_); (try simp only [ByteArray.size_append, ByteArray.size_extract] at hc10_); (try simp only [ByteArray.size_append, ByteArray.size_extract] at hc11_); (try simp only [ByteArray.size_append, ByteArray.size_extract] at hc13_); omega)]; try with_reducible rfl)
            rotate_left
            ·simp only [Act.put, List.setIfInBounds_toArray, List.set_cons_zero, List.set_cons_succ, i64_w, i32_w]
             rfl
            refine pure_ (i := 7) (N := some 54) (v := ?_) (a' := ?_) #[true, true, true, true, true, true, true, true, false, false, false, false, false, false, false, false, false, false, false, false, false, false, false, false, false, false, false, false, false, false, false, false, false, false, false, false, false, false] rfl rfl (any_of HT_.out (by kernel_rfl)) (fun _ _ _ h => h) (Or.inl ⟨by rfl, ?_⟩) ?_ ?_
            rotate_left
            ·intro w'
             go_simp
             first | with_reducible rfl | (rw [if_neg (by have h1_ : (⟨#[10]⟩ : ByteArray).size = 1 := rfl; (try have hc8_ := of_decide_eq_true c8b1); (try have hc9_ := of_decide_eq_true c9b1); (try have hc10_ := of_decide_eq_true c10b1); (try have hc11_ := of_decide_eq_true c11b1); (try have hc13_ := of_decide_eq_true c13b1); (try simp only [ByteArray.size_append, ByteArray.size_extract] at hc8_); (try simp only [ByteArray.size_append, ByteArray.size_extract] at hc9_); (try simp only [ByteArray.size_append, ByteArray.size_extract] at hc10_); (try simp only [ByteArray.size_append, ByteArray.size_extract] at hc11_); (try simp only [ByteArray.size_append, ByteArray.size_extract] at hc13_); omega)]; try with_reducible rfl)
            rotate_left
            ·simp only [Act.put, List.setIfInBounds_toArray, List.set_cons_zero, List.set_cons_succ, i64_w, i32_w]
             rfl
            refine pure_ (i := 8) (N := some 55) (v := ?_) (a' := ?_) #[true, true, true, true, true, true, true, true, true, false, false, false, false, false, false, false, false, false, false, false, false, false, false, false, false, false, false, false, false, false, false, false, false, false, false, false, false, false] rfl rfl (any_of HT_.out (by kernel_rfl)) (fun _ _ _ h => h) (Or.inl ⟨by rfl, ?_⟩) ?_ ?_
            rotate_left
            ·intro w'
             go_simp
             first | with_reducible rfl | (rw [if_neg (by have h1_ : (⟨#[10]⟩ : ByteArray).size = 1 := rfl; (try have hc8_ := of_decide_eq_true c8b1); (try have hc9_ := of_decide_eq_true c9b1); (try have hc10_ := of_decide_eq_true c10b1); (try have hc11_ := of_decide_eq_true c11b1); (try have hc13_ := of_decide_eq_true c13b1); (try simp only [ByteArray.size_append, ByteArray.size_extract] at hc8_); (try simp only [ByteArray.size_append, ByteArray.size_extract] at hc9_); (try simp only [ByteArray.size_append, ByteArray.size_extract] at hc10_); (try simp only [ByteArray.size_append, ByteArray.size_extract] at hc11_); (try simp only [ByteArray.size_append, ByteArray.size_extract] at hc13_); omega)]; try with_reducible rfl)
            rotate_left
            ·simp only [Act.put, List.setIfInBounds_toArray, List.set_cons_zero, List.set_cons_succ, i64_w, i32_w]
             rfl
            refine pure_ (i := 9) (N := some 56) (v := ?_) (a' := ?_) #[true, true, true, true, true, true, true, true, true, true, false, false, false, false, false, false, false, false, false, false, false, false, false, false, false, false, false, false, false, false, false, false, false, false, false, false, false, false] rfl rfl (any_of HT_.out (by kernel_rfl)) (fun _ _ _ h => h) (Or.inl ⟨by rfl, ?_⟩) ?_ ?_
            rotate_left
            ·intro w'
             go_simp
             first | with_reducible rfl | (rw [if_neg (by have h1_ : (⟨#[10]⟩ : ByteArray).size = 1 := rfl; (try have hc8_ := of_decide_eq_true c8b1); (try have hc9_ := of_decide_eq_true c9b1); (try have hc10_ := of_decide_eq_true c10b1); (try have hc11_ := of_decide_eq_true c11b1); (try have hc13_ := of_decide_eq_true c13b1); (try simp only [ByteArray.size_append, ByteArray.size_extract] at hc8_); (try simp only [ByteArray.size_append, ByteArray.size_extract] at hc9_); (try simp only [ByteArray.size_append, ByteArray.size_extract] at hc10_); (try simp only [ByteArray.size_append, ByteArray.size_extract] at hc11_); (try simp only [ByteArray.size_append, ByteArray.size_extract] at hc13_); omega)]; try with_reducible rfl)
            rotate_left
            ·simp only [Act.put, List.setIfInBounds_toArray, List.set_cons_zero, List.set_cons_succ, i64_w, i32_w]
             rfl
            refine pure_ (i := 10) (N := some 57) (v := undef) (a' := ?_) #[true, true, true, true, true, true, true, true, true, true, true, false, false, false, false, false, false, false, false, false, false, false, false, false, false, false, false, false, false, false, false, false, false, false, false, false, false, false] rfl rfl (any_of HT_.out (by kernel_rfl)) (fun _ _ _ h => h) (Or.inr ⟨by rfl, rfl⟩) ?_ ?_
            rotate_left
            ·simp only [Act.put, List.setIfInBounds_toArray, List.set_cons_zero, List.set_cons_succ, i64_w, i32_w]
             rfl
            refine pure_ (i := 11) (N := some 58) (v := undef) (a' := ?_) #[true, true, true, true, true, true, true, true, true, true, true, true, false, false, false, false, false, false, false, false, false, false, false, false, false, false, false, false, false, false, false, false, false, false, false, false, false, false] rfl rfl (any_of HT_.out (by kernel_rfl)) (fun _ _ _ h => h) (Or.inr ⟨by rfl, rfl⟩) ?_ ?_
            rotate_left
            ·simp only [Act.put, List.setIfInBounds_toArray, List.set_cons_zero, List.set_cons_succ, i64_w, i32_w]
             rfl
            refine pure_ (i := 12) (N := some 59) (v := undef) (a' := ?_) #[true, true, true, true, true, true, true, true, true, true, true, true, true, false, false, false, false, false, false, false, false, false, false, false, false, false, false, false, false, false, false, false, false, false, false, false, false, false] rfl rfl (any_of HT_.out (by kernel_rfl)) (fun _ _ _ h => h) (Or.inr ⟨by rfl, rfl⟩) ?_ ?_
            rotate_left
            ·simp only [Act.put, List.setIfInBounds_toArray, List.set_cons_zero, List.set_cons_succ, i64_w, i32_w]
             rfl
            refine pure_ (i := 13) (N := some 60) (v := undef) (a' := ?_) #[true, true, true, true, true, true, true, true, true, true, true, true, true, true, false, false, false, false, false, false, false, false, false, false, false, false, false, false, false, false, false, false, false, false, false, false, false, false] rfl rfl (any_of HT_.out (by kernel_rfl)) (fun _ _ _ h => h) (Or.inr ⟨by rfl, rfl⟩) ?_ ?_
            rotate_left
            ·simp only [Act.put, List.setIfInBounds_toArray, List.set_cons_zero, List.set_cons_succ, i64_w, i32_w]
             rfl
            refine pure_ (i := 14) (N := some 61) (v := undef) (a' := ?_) #[true, true, true, true, true, true, true, true, true, true, true, true, true, true, true, false, false, false, false, false, false, false, false, false, false, false, false, false, false, false, false, false, false, false, false, false, false, false] rfl rfl (any_of HT_.out (by kernel_rfl)) (fun _ _ _ h => h) (Or.inr ⟨by rfl, rfl⟩) ?_ ?_
            rotate_left
            ·simp only [Act.put, List.setIfInBounds_toArray, List.set_cons_zero, List.set_cons_succ, i64_w, i32_w]
             rfl
            refine pure_ (i := 15) (N := some 62) (v := ?_) (a' := ?_) #[true, true, true, true, true, true, true, true, true, true, true, true, true, true, true, true, false, false, false, false, false, false, false, false, false, false, false, false, false, false, false, false, false, false, false, false, false, false] rfl rfl (any_of HT_.out (by kernel_rfl)) (fun _ _ _ h => h) (Or.inl ⟨by rfl, ?_⟩) ?_ ?_
            rotate_left
            ·intro w'
             go_simp
             first | with_reducible rfl | (rw [if_neg (by have h1_ : (⟨#[10]⟩ : ByteArray).size = 1 := rfl; (try have hc8_ := of_decide_eq_true c8b1); (try have hc9_ := of_decide_eq_true c9b1); (try have hc10_ := of_decide_eq_true c10b1); (try have hc11_ := of_decide_eq_true c11b1); (try have hc13_ := of_decide_eq_true c13b1); (try simp only [ByteArray.size_append, ByteArray.size_extract] at hc8_); (try simp only [ByteArray.size_append, ByteArray.size_extract] at hc9_); (try simp only [ByteArray.size_append, ByteArray.size_extract] at hc10_); (try simp only [ByteArray.size_append, ByteArray.size_extract] at hc11_); (try simp only [ByteArray.size_append, ByteArray.size_extract] at hc13_); omega)]; try with_reducible rfl)
            rotate_left
            ·simp only [Act.put, List.setIfInBounds_toArray, List.set_cons_zero, List.set_cons_succ, i64_w, i32_w]
             rfl
            refine pure_ (i := 16) (N := some 63) (v := ?_) (a' := ?_) #[true, true, true, true, true, true, true, true, true, true, true, true, true, true, true, true, true, false, false, false, false, false, false, false, false, false, false, false, false, false, false, false, false, false, false, false, false, false] rfl rfl (any_of HT_.out (by kernel_rfl)) (fun _ _ _ h => h) (Or.inl ⟨by rfl, ?_⟩) ?_ ?_
            rotate_left
            ·intro w'
             go_simp
             first | with_reducible rfl | (rw [if_neg (by have h1_ : (⟨#[10]⟩ : ByteArray).size = 1 := rfl; (try have hc8_ := of_decide_eq_true c8b1); (try have hc9_ := of_decide_eq_true c9b1); (try have hc10_ := of_decide_eq_true c10b1); (try have hc11_ := of_decide_eq_true c11b1); (try have hc13_ := of_decide_eq_true c13b1); (try simp only [ByteArray.size_append, ByteArray.size_extract] at hc8_); (try simp only [ByteArray.size_append, ByteArray.size_extract] at hc9_); (try simp only [ByteArray.size_append, ByteArray.size_extract] at hc10_); (try simp only [ByteArray.size_append, ByteArray.size_extract] at hc11_); (try simp only [ByteArray.size_append, ByteArray.size_extract] at hc13_); omega)]; try with_reducible rfl)
            rotate_left
            ·simp only [Act.put, List.setIfInBounds_toArray, List.set_cons_zero, List.set_cons_succ, i64_w, i32_w]
             rfl
            refine pure_ (i := 17) (N := some 64) (v := undef) (a' := ?_) #[true, true, true, true, true, true, true, true, true, true, true, true, true, true, true, true, true, true, false, false, false, false, false, false, false, false, false, false, false, false, false, false, false, false, false, false, false, false] rfl rfl (any_of HT_.out (by kernel_rfl)) (fun _ _ _ h => h) (Or.inr ⟨by rfl, rfl⟩) ?_ ?_
            rotate_left
            ·simp only [Act.put, List.setIfInBounds_toArray, List.set_cons_zero, List.set_cons_succ, i64_w, i32_w]
             rfl
            refine pure_ (i := 18) (N := some 65) (v := undef) (a' := ?_) #[true, true, true, true, true, true, true, true, true, true, true, true, true, true, true, true, true, true, true, false, false, false, false, false, false, false, false, false, false, false, false, false, false, false, false, false, false, false] rfl rfl (any_of HT_.out (by kernel_rfl)) (fun _ _ _ h => h) (Or.inr ⟨by rfl, rfl⟩) ?_ ?_
            rotate_left
            ·simp only [Act.put, List.setIfInBounds_toArray, List.set_cons_zero, List.set_cons_succ, i64_w, i32_w]
             rfl
            refine pure_ (i := 19) (N := some 66) (v := undef) (a' := ?_) #[true, true, true, true, true, true, true, true, true, true, true, true, true, true, true, true, true, true, true, true, false, false, false, false, false, false, false, false, false, false, false, false, false, false, false, false, false, false] rfl rfl (any_of HT_.out (by kernel_rfl)) (fun _ _ _ h => h) (Or.inr ⟨by rfl, rfl⟩) ?_ ?_
            rotate_left
            ·simp only [Act.put, List.setIfInBounds_toArray, List.set_cons_zero, List.set_cons_succ, i64_w, i32_w]
             rfl
            refine pure_ (i := 20) (N := some 67) (v := undef) (a' := ?_) #[true, true, true, true, true, true, true, true, true, true, true, true, true, true, true, true, true, true, true, true, true, false, false, false, false, false, false, false, false, false, false, false, false, false, false, false, false, false] rfl rfl (any_of HT_.out (by kernel_rfl)) (fun _ _ _ h => h) (Or.inr ⟨by rfl, rfl⟩) ?_ ?_
            rotate_left
            ·simp only [Act.put, List.setIfInBounds_toArray, List.set_cons_zero, List.set_cons_succ, i64_w, i32_w]
             rfl
            refine pure_ (i := 21) (N := some 68) (v := undef) (a' := ?_) #[true, true, true, true, true, true, true, true, true, true, true, true, true, true, true, true, true, true, true, true, true, true, false, false, false, false, false, false, false, false, false, false, false, false, false, false, false, false] rfl rfl (any_of HT_.out (by kernel_rfl)) (fun _ _ _ h => h) (Or.inr ⟨by rfl, rfl⟩) ?_ ?_
            rotate_left
            ·simp only [Act.put, List.setIfInBounds_toArray, List.set_cons_zero, List.set_cons_succ, i64_w, i32_w]
             rfl
            refine pure_ (i := 22) (N := some 69) (v := undef) (a' := ?_) #[true, true, true, true, true, true, true, true, true, true, true, true, true, true, true, true, true, true, true, true, true, true, true, false, false, false, false, false, false, false, false, false, false, false, false, false, false, false] rfl rfl (any_of HT_.out (by kernel_rfl)) (fun _ _ _ h => h) (Or.inr ⟨by rfl, rfl⟩) ?_ ?_
            rotate_left
            ·simp only [Act.put, List.setIfInBounds_toArray, List.set_cons_zero, List.set_cons_succ, i64_w, i32_w]
             rfl
            refine pure_ (i := 23) (N := some 70) (v := ?_) (a' := ?_) #[true, true, true, true, true, true, true, true, true, true, true, true, true, true, true, true, true, true, true, true, true, true, true, true, false, false, false, false, false, false, false, false, false, false, false, false, false, false] rfl rfl (any_of HT_.out (by kernel_rfl)) (fun _ _ _ h => h) (Or.inl ⟨by rfl, ?_⟩) ?_ ?_
            rotate_left
            ·intro w'
             go_simp
             first | with_reducible rfl | (rw [if_neg (by have h1_ : (⟨#[10]⟩ : ByteArray).size = 1 := rfl; (try have hc8_ := of_decide_eq_true c8b1); (try have hc9_ := of_decide_eq_true c9b1); (try have hc10_ := of_decide_eq_true c10b1); (try have hc11_ := of_decide_eq_true c11b1); (try have hc13_ := of_decide_eq_true c13b1); (try simp only [ByteArray.size_append, ByteArray.size_extract] at hc8_); (try simp only [ByteArray.size_append, ByteArray.size_extract] at hc9_); (try simp only [ByteArray.size_append, ByteArray.size_extract] at hc10_); (try simp only [ByteArray.size_append, ByteArray.size_extract] at hc11_); (try simp only [ByteArray.size_append, ByteArray.size_extract] at hc13_); omega)]; try with_reducible rfl)
            rotate_left
            ·simp only [Act.put, List.setIfInBounds_toArray, List.set_cons_zero, List.set_cons_succ, i64_w, i32_w]
             rfl
            refine pure_ (i := 24) (N := some 71) (v := ?_) (a' := ?_) #[true, true, true, true, true, true, true, true, true, true, true, true, true, true, true, true, true, true, true, true, true, true, true, true, true, false, false, false, false, false, false, false, false, false, false, false, false, false] rfl rfl (any_of HT_.out (by kernel_rfl)) (fun _ _ _ h => h) (Or.inl ⟨by rfl, ?_⟩) ?_ ?_
            rotate_left
            ·intro w'
             go_simp
             first | with_reducible rfl | (rw [if_neg (by have h1_ : (⟨#[10]⟩ : ByteArray).size = 1 := rfl; (try have hc8_ := of_decide_eq_true c8b1); (try have hc9_ := of_decide_eq_true c9b1); (try have hc10_ := of_decide_eq_true c10b1); (try have hc11_ := of_decide_eq_true c11b1); (try have hc13_ := of_decide_eq_true c13b1); (try simp only [ByteArray.size_append, ByteArray.size_extract] at hc8_); (try simp only [ByteArray.size_append, ByteArray.size_extract] at hc9_); (try simp only [ByteArray.size_append, ByteArray.size_extract] at hc10_); (try simp only [ByteArray.size_append, ByteArray.size_extract] at hc11_); (try simp only [ByteArray.size_append, ByteArray.size_extract] at hc13_); omega)]; try with_reducible rfl)
            rotate_left
            ·simp only [Act.put, List.setIfInBounds_toArray, List.set_cons_zero, List.set_cons_succ, i64_w, i32_w]
             rfl
            refine pure_ (i := 25) (N := some 72) (v := undef) (a' := ?_) #[true, true, true, true, true, true, true, true, true, true, true, true, true, true, true, true, true, true, true, true, true, true, true, true, true, true, false, false, false, false, false, false, false, false, false, false, false, false] rfl rfl (any_of HT_.out (by kernel_rfl)) (fun _ _ _ h => h) (Or.inr ⟨by rfl, rfl⟩) ?_ ?_
            rotate_left
            ·simp only [Act.put, List.setIfInBounds_toArray, List.set_cons_zero, List.set_cons_succ, i64_w, i32_w]
             rfl
            refine pure_ (i := 26) (N := some 73) (v := undef) (a' := ?_) #[true, true, true, true, true, true, true, true, true, true, true, true, true, true, true, true, true, true, true, true, true, true, true, true, true, true, true, false, false, false, false, false, false, false, false, false, false, false] rfl rfl (any_of HT_.out (by kernel_rfl)) (fun _ _ _ h => h) (Or.inr ⟨by rfl, rfl⟩) ?_ ?_
            rotate_left
            ·simp only [Act.put, List.setIfInBounds_toArray, List.set_cons_zero, List.set_cons_succ, i64_w, i32_w]
             rfl
            refine pure_ (i := 27) (N := some 74) (v := undef) (a' := ?_) #[true, true, true, true, true, true, true, true, true, true, true, true, true, true, true, true, true, true, true, true, true, true, true, true, true, true, true, true, false, false, false, false, false, false, false, false, false, false] rfl rfl (any_of HT_.out (by kernel_rfl)) (fun _ _ _ h => h) (Or.inr ⟨by rfl, rfl⟩) ?_ ?_
            rotate_left
            ·simp only [Act.put, List.setIfInBounds_toArray, List.set_cons_zero, List.set_cons_succ, i64_w, i32_w]
             rfl
            refine pure_ (i := 28) (N := some 75) (v := undef) (a' := ?_) #[true, true, true, true, true, true, true, true, true, true, true, true, true, true, true, true, true, true, true, true, true, true, true, true, true, true, true, true, true, false, false, false, false, false, false, false, false, false] rfl rfl (any_of HT_.out (by kernel_rfl)) (fun _ _ _ h => h) (Or.inr ⟨by rfl, rfl⟩) ?_ ?_
            rotate_left
            ·simp only [Act.put, List.setIfInBounds_toArray, List.set_cons_zero, List.set_cons_succ, i64_w, i32_w]
             rfl
            refine pure_ (i := 29) (N := some 76) (v := undef) (a' := ?_) #[true, true, true, true, true, true, true, true, true, true, true, true, true, true, true, true, true, true, true, true, true, true, true, true, true, true, true, true, true, true, false, false, false, false, false, false, false, false] rfl rfl (any_of HT_.out (by kernel_rfl)) (fun _ _ _ h => h) (Or.inr ⟨by rfl, rfl⟩) ?_ ?_
            rotate_left
            ·simp only [Act.put, List.setIfInBounds_toArray, List.set_cons_zero, List.set_cons_succ, i64_w, i32_w]
             rfl
            refine pure_ (i := 30) (N := some 77) (v := undef) (a' := ?_) #[true, true, true, true, true, true, true, true, true, true, true, true, true, true, true, true, true, true, true, true, true, true, true, true, true, true, true, true, true, true, true, false, false, false, false, false, false, false] rfl rfl (any_of HT_.out (by kernel_rfl)) (fun _ _ _ h => h) (Or.inr ⟨by rfl, rfl⟩) ?_ ?_
            rotate_left
            ·simp only [Act.put, List.setIfInBounds_toArray, List.set_cons_zero, List.set_cons_succ, i64_w, i32_w]
             rfl
            refine pure_ (i := 31) (N := some 78) (v := undef) (a' := ?_) #[true, true, true, true, true, true, true, true, true, true, true, true, true, true, true, true, true, true, true, true, true, true, true, true, true, true, true, true, true, true, true, true, false, false, false, false, false, false] rfl rfl (any_of HT_.out (by kernel_rfl)) (fun _ _ _ h => h) (Or.inr ⟨by rfl, rfl⟩) ?_ ?_
            rotate_left
            ·simp only [Act.put, List.setIfInBounds_toArray, List.set_cons_zero, List.set_cons_succ, i64_w, i32_w]
             rfl
            refine pure_ (i := 32) (N := some 79) (v := undef) (a' := ?_) #[true, true, true, true, true, true, true, true, true, true, true, true, true, true, true, true, true, true, true, true, true, true, true, true, true, true, true, true, true, true, true, true, true, false, false, false, false, false] rfl rfl (any_of HT_.out (by kernel_rfl)) (fun _ _ _ h => h) (Or.inr ⟨by rfl, rfl⟩) ?_ ?_
            rotate_left
            ·simp only [Act.put, List.setIfInBounds_toArray, List.set_cons_zero, List.set_cons_succ, i64_w, i32_w]
             rfl
            refine pure_ (i := 33) (N := some 80) (v := undef) (a' := ?_) #[true, true, true, true, true, true, true, true, true, true, true, true, true, true, true, true, true, true, true, true, true, true, true, true, true, true, true, true, true, true, true, true, true, true, false, false, false, false] rfl rfl (any_of HT_.out (by kernel_rfl)) (fun _ _ _ h => h) (Or.inr ⟨by rfl, rfl⟩) ?_ ?_
            rotate_left
            ·simp only [Act.put, List.setIfInBounds_toArray, List.set_cons_zero, List.set_cons_succ, i64_w, i32_w]
             rfl
            refine pure_ (i := 34) (N := some 81) (v := undef) (a' := ?_) #[true, true, true, true, true, true, true, true, true, true, true, true, true, true, true, true, true, true, true, true, true, true, true, true, true, true, true, true, true, true, true, true, true, true, true, false, false, false] rfl rfl (any_of HT_.out (by kernel_rfl)) (fun _ _ _ h => h) (Or.inr ⟨by rfl, rfl⟩) ?_ ?_
            rotate_left
            ·simp only [Act.put, List.setIfInBounds_toArray, List.set_cons_zero, List.set_cons_succ, i64_w, i32_w]
             rfl
            refine pure_ (i := 35) (N := some 82) (v := undef) (a' := ?_) #[true, true, true, true, true, true, true, true, true, true, true, true, true, true, true, true, true, true, true, true, true, true, true, true, true, true, true, true, true, true, true, true, true, true, true, true, false, false] rfl rfl (any_of HT_.out (by kernel_rfl)) (fun _ _ _ h => h) (Or.inr ⟨by rfl, rfl⟩) ?_ ?_
            rotate_left
            ·simp only [Act.put, List.setIfInBounds_toArray, List.set_cons_zero, List.set_cons_succ, i64_w, i32_w]
             rfl
            refine pure_ (i := 36) (N := some 83) (v := ?_) (a' := ?_) #[true, true, true, true, true, true, true, true, true, true, true, true, true, true, true, true, true, true, true, true, true, true, true, true, true, true, true, true, true, true, true, true, true, true, true, true, true, false] rfl rfl (any_of HT_.out (by kernel_rfl)) (fun _ _ _ h => h) (Or.inl ⟨by rfl, ?_⟩) ?_ ?_
            rotate_left
            ·intro w'
             go_simp
             first | with_reducible rfl | (rw [if_neg (by have h1_ : (⟨#[10]⟩ : ByteArray).size = 1 := rfl; (try have hc8_ := of_decide_eq_true c8b1); (try have hc9_ := of_decide_eq_true c9b1); (try have hc10_ := of_decide_eq_true c10b1); (try have hc11_ := of_decide_eq_true c11b1); (try have hc13_ := of_decide_eq_true c13b1); (try simp only [ByteArray.size_append, ByteArray.size_extract] at hc8_); (try simp only [ByteArray.size_append, ByteArray.size_extract] at hc9_); (try simp only [ByteArray.size_append, ByteArray.size_extract] at hc10_); (try simp only [ByteArray.size_append, ByteArray.size_extract] at hc11_); (try simp only [ByteArray.size_append, ByteArray.size_extract] at hc13_); omega)]; try with_reducible rfl)
            rotate_left
            ·simp only [Act.put, List.setIfInBounds_toArray, List.set_cons_zero, List.set_cons_succ, i64_w, i32_w]
             rfl
            refine pure_ (i := 37) (N := some 6) (v := ?_) (a' := ?_) #[true, true, true, true, true, true, true, true, true, true, true, true, true, true, true, true, true, true, true, true, true, true, true, true, true, true, true, true, true, true, true, true, true, true, true, true, true, true] rfl rfl (any_of HT_.out (by kernel_rfl)) (fun _ _ _ h => h) (Or.inl ⟨by rfl, ?_⟩) ?_ ?_
            rotate_left
            ·intro w'
             go_simp
             first | with_reducible rfl | (rw [if_neg (by have h1_ : (⟨#[10]⟩ : ByteArray).size = 1 := rfl; (try have hc8_ := of_decide_eq_true c8b1); (try have hc9_ := of_decide_eq_true c9b1); (try have hc10_ := of_decide_eq_true c10b1); (try have hc11_ := of_decide_eq_true c11b1); (try have hc13_ := of_decide_eq_true c13b1); (try simp only [ByteArray.size_append, ByteArray.size_extract] at hc8_); (try simp only [ByteArray.size_append, ByteArray.size_extract] at hc9_); (try simp only [ByteArray.size_append, ByteArray.size_extract] at hc10_); (try simp only [ByteArray.size_append, ByteArray.size_extract] at hc11_); (try simp only [ByteArray.size_append, ByteArray.size_extract] at hc13_); omega)]; try with_reducible rfl)
            rotate_left
            ·simp only [Act.put, List.setIfInBounds_toArray, List.set_cons_zero, List.set_cons_succ, i64_w, i32_w]
             rfl
            refine done_ (done_of HT_.out (by kernel_rfl)) ?_
            try go_wp2
            go_ret
            exact ⟨by first | rfl | (simp [errW_none, errW_some] <;> rfl) | (simp only [← hji7]; first | rfl | (simp [errW_none, errW_some] <;> rfl)) | (simp [*, errW_none, errW_some] <;> rfl), by repeat (first | (with_reducible first | exact HB.out | apply below_alloc | apply pw_below_drewN | apply below_drew1) | exact HB.out)⟩
          ·rw [if_neg c18] at H
           exact absurd H (by simp)
         ·replace c17 := Bool.eq_false_iff.mpr c17
          subst c17
          have H1 : (some false) = some r := by rw [if_neg (show ¬ (false = true) by decide)] at H; exact H
          clear H
          have H := H1
          clear H1
          obtain rfl := Option.some.inj H
          go_enter Tryd.func10, Tryd.ntmps10
          try go_wp2_with (first | ((with_reducible refine gate_callee (f := 11) rfl ?_); refine goesL_ (some 13) rfl rfl Tryd.func11 (by kernel_rfl) rfl #[] rfl (by (try simp only [List.map_toArray, List.map_cons, List.map_nil]); first | done | rfl | (simp only [List.length_drop, List.length_take]; rfl)) ?_; (with_reducible refine (pandectlaw05_head.calls  false _ A4.out).mono ?_); rintro e w41 ⟨rfl, hb⟩; refine ⟨_, rfl, ?_⟩; have n0_ := Aside0.mk (below_step (by repeat (first | (with_reducible first | exact HB.out | apply below_alloc | apply pw_below_drewN | apply below_drew1) | exact HB.out)) hb); clear HB; have HB := n0_; clear n0_; (try clear hb); (try clear hb2); (try clear hk); (try clear hi)) | ((with_reducible refine gate_callee (f := 18) rfl ?_); refine goesL_ (some 15) rfl rfl Tryd.func18 (by kernel_rfl) rfl #[.string a0] rfl (by (try simp only [List.map_toArray, List.map_cons, List.map_nil]); first | done | rfl | (simp only [List.length_drop, List.length_take]; rfl)) ?_; (with_reducible refine (pandectref05_Name.calls k a0 true _ A5.out).mono ?_); rintro e w' ⟨rfl, ⟨nd, rfl⟩⟩; refine ⟨_, rfl, ?_⟩) | ((with_reducible refine gate_callee (f := 19) rfl ?_); refine goesL_ (some 34) rfl rfl Tryd.func19 (by kernel_rfl) rfl #[.int .i64 (wrap64 (Int.tmod a1 10000000))] rfl (by (try simp only [List.map_toArray, List.map_cons, List.map_nil]); first | done | rfl | (simp only [List.length_drop, List.length_take]; rfl)) ?_; (with_reducible refine (pandectref05_Decimal.calls k (wrap64 (Int.tmod a1 10000000)) t224 _ A12.out).mono ?_); rintro e w' ⟨rfl, ⟨nd, rfl⟩⟩; refine ⟨_, rfl, ?_⟩) | ((with_reducible refine gate_callee (f := 12) rfl ?_); refine goesL_ (some 36) rfl rfl Tryd.func12 (by kernel_rfl) rfl #[.string ((a0 ++ ((⟨#[61, 59, 60, 62, 40, 41, 123, 125, 91, 93, 44, 46, 58]⟩ : ByteArray).extract ((ji7) : Int).toNat ((wrap64 ((ji7) + 1)) : Int).toNat)) ++ t224)] rfl (by (try simp only [List.map_toArray, List.map_cons, List.map_nil]); first | done | (simp only [hji7]; rfl) | rfl | (simp only [List.length_drop, List.length_take]; rfl)) ?_; (with_reducible refine (lexer_Lex.calls ((a0 ++ ((⟨#[61, 59, 60, 62, 40, 41, 123, 125, 91, 93, 44, 46, 58]⟩ : ByteArray).extract ((ji7) : Int).toNat ((wrap64 ((ji7) + 1)) : Int).toNat)) ++ t224) t225 t226 t227 _ A14.out).mono ?_); rintro e w42 ⟨v228, rfl, ho0, hb⟩; refine ⟨_, rfl, ?_⟩; have n0_ := Aside0.mk (Kd.R_lower ho0 (below_size (by repeat (first | (with_reducible first | exact HB.out | apply below_alloc | apply pw_below_drewN | apply below_drew1) | exact HB.out)))); have n1_ := Aside0.mk (below_step (by repeat (first | (with_reducible first | exact HB.out | apply below_alloc | apply pw_below_drewN | apply below_drew1) | exact HB.out)) hb); clear HB; have HO229 := n0_; have HB := n1_; clear n0_ n1_; (try clear hb); (try clear hb2); (try clear hk); (try clear hi); (try clear ho0); obtain ⟨Ao43, co43, eo43⟩ := Kd.R_slice HO229.out; subst eo43))
          have n0_ := Aside0.mk (Kd.R_drew HO229.out)
          have n1_ := Aside0.mk (below_drew1 HB.out)
          clear HO229
          clear HB
          have HO229 := n0_
          have HB := n1_
          clear n0_ n1_
          refine start_ (n := 38) (S := fun w' => True) (ds := []) #[false, false, false, false, false, false, false, false, false, false, false, false, false, false, false, false, false, false, false, false, false, false, false, false, false, false, false, false, false, false, false, false, false, false, false, false, false, false] (by kernel_rfl) rfl rfl trivial (fun hHeld => ?_); refine with_tabW pandectlaw05_LexerWords.tab9 pandectlaw05_LexerWords.bits9 (fun HT_ HW_ => ?_)
          generalize w42.drew = w44 at HO229 HB hHeld ⊢
          refine pure_ (i := 0) (N := some 47) (v := ?_) (a' := ?_) #[true, false, false, false, false, false, false, false, false, false, false, false, false, false, false, false, false, false, false, false, false, false, false, false, false, false, false, false, false, false, false, false, false, false, false, false, false, false] rfl rfl (any_of HT_.out (by kernel_rfl)) (fun _ _ _ h => h) (Or.inl ⟨by rfl, ?_⟩) ?_ ?_
          rotate_left
          ·intro w'
           go_simp
           first | with_reducible rfl | (rw [if_neg (by have h1_ : (⟨#[10]⟩ : ByteArray).size = 1 := rfl; (try have hc8_ := of_decide_eq_true c8b1); (try have hc9_ := of_decide_eq_true c9b1); (try have hc10_ := of_decide_eq_true c10b1); (try have hc11_ := of_decide_eq_true c11b1); (try have hc13_ := of_decide_eq_true c13b1); (try simp only [ByteArray.size_append, ByteArray.size_extract] at hc8_); (try simp only [ByteArray.size_append, ByteArray.size_extract] at hc9_); (try simp only [ByteArray.size_append, ByteArray.size_extract] at hc10_); (try simp only [ByteArray.size_append, ByteArray.size_extract] at hc11_); (try simp only [ByteArray.size_append, ByteArray.size_extract] at hc13_); omega)]; try with_reducible rfl)
          rotate_left
          ·simp only [Act.put, List.setIfInBounds_toArray, List.set_cons_zero, List.set_cons_succ, i64_w, i32_w]
           rfl
          refine pure_ (i := 1) (N := some 48) (v := ?_) (a' := ?_) #[true, true, false, false, false, false, false, false, false, false, false, false, false, false, false, false, false, false, false, false, false, false, false, false, false, false, false, false, false, false, false, false, false, false, false, false, false, false] rfl rfl (any_of HT_.out (by kernel_rfl)) (fun _ _ _ h => h) (Or.inl ⟨by rfl, ?_⟩) ?_ ?_
          rotate_left
          ·intro w'
           go_simp
           first | with_reducible rfl | (rw [if_neg (by have h1_ : (⟨#[10]⟩ : ByteArray).size = 1 := rfl; (try have hc8_ := of_decide_eq_true c8b1); (try have hc9_ := of_decide_eq_true c9b1); (try have hc10_ := of_decide_eq_true c10b1); (try have hc11_ := of_decide_eq_true c11b1); (try have hc13_ := of_decide_eq_true c13b1); (try simp only [ByteArray.size_append, ByteArray.size_extract] at hc8_); (try simp only [ByteArray.size_append, ByteArray.size_extract] at hc9_); (try simp only [ByteArray.size_append, ByteArray.size_extract] at hc10_); (try simp only [ByteArray.size_append, ByteArray.size_extract] at hc11_); (try simp only [ByteArray.size_append, ByteArray.size_extract] at hc13_); omega)]; try with_reducible rfl)
          rotate_left
          ·simp only [Act.put, List.setIfInBounds_toArray, List.set_cons_zero, List.set_cons_succ, i64_w, i32_w]
           rfl
          refine pure_ (i := 2) (N := some 49) (v := undef) (a' := ?_) #[true, true, true, false, false, false, false, false, false, false, false, false, false, false, false, false, false, false, false, false, false, false, false, false, false, false, false, false, false, false, false, false, false, false, false, false, false, false] rfl rfl (any_of HT_.out (by kernel_rfl)) (fun _ _ _ h => h) (Or.inr ⟨by rfl, rfl⟩) ?_ ?_
          rotate_left
          ·simp only [Act.put, List.setIfInBounds_toArray, List.set_cons_zero, List.set_cons_succ, i64_w, i32_w]
           rfl
          refine pure_ (i := 3) (N := some 50) (v := undef) (a' := ?_) #[true, true, true, true, false, false, false, false, false, false, false, false, false, false, false, false, false, false, false, false, false, false, false, false, false, false, false, false, false, false, false, false, false, false, false, false, false, false] rfl rfl (any_of HT_.out (by kernel_rfl)) (fun _ _ _ h => h) (Or.inr ⟨by rfl, rfl⟩) ?_ ?_
          rotate_left
          ·simp only [Act.put, List.setIfInBounds_toArray, List.set_cons_zero, List.set_cons_succ, i64_w, i32_w]
           rfl
          refine pure_ (i := 4) (N := some 51) (v := undef) (a' := ?_) #[true, true, true, true, true, false, false, false, false, false, false, false, false, false, false, false, false, false, false, false, false, false, false, false, false, false, false, false, false, false, false, false, false, false, false, false, false, false] rfl rfl (any_of HT_.out (by kernel_rfl)) (fun _ _ _ h => h) (Or.inr ⟨by rfl, rfl⟩) ?_ ?_
          rotate_left
          ·simp only [Act.put, List.setIfInBounds_toArray, List.set_cons_zero, List.set_cons_succ, i64_w, i32_w]
           rfl
          refine pure_ (i := 5) (N := some 52) (v := undef) (a' := ?_) #[true, true, true, true, true, true, false, false, false, false, false, false, false, false, false, false, false, false, false, false, false, false, false, false, false, false, false, false, false, false, false, false, false, false, false, false, false, false] rfl rfl (any_of HT_.out (by kernel_rfl)) (fun _ _ _ h => h) (Or.inr ⟨by rfl, rfl⟩) ?_ ?_
          rotate_left
          ·simp only [Act.put, List.setIfInBounds_toArray, List.set_cons_zero, List.set_cons_succ, i64_w, i32_w]
           rfl
          refine pure_ (i := 6) (N := some 53) (v := undef) (a' := ?_) #[true, true, true, true, true, true, true, false, false, false, false, false, false, false, false, false, false, false, false, false, false, false, false, false, false, false, false, false, false, false, false, false, false, false, false, false, false, false] rfl rfl (any_of HT_.out (by kernel_rfl)) (fun _ _ _ h => h) (Or.inr ⟨by rfl, rfl⟩) ?_ ?_
          rotate_left
          ·simp only [Act.put, List.setIfInBounds_toArray, List.set_cons_zero, List.set_cons_succ, i64_w, i32_w]
           rfl
          refine pure_ (i := 7) (N := some 54) (v := undef) (a' := ?_) #[true, true, true, true, true, true, true, true, false, false, false, false, false, false, false, false, false, false, false, false, false, false, false, false, false, false, false, false, false, false, false, false, false, false, false, false, false, false] rfl rfl (any_of HT_.out (by kernel_rfl)) (fun _ _ _ h => h) (Or.inr ⟨by rfl, rfl⟩) ?_ ?_
          rotate_left
          ·simp only [Act.put, List.setIfInBounds_toArray, List.set_cons_zero, List.set_cons_succ, i64_w, i32_w]
           rfl
          refine pure_ (i := 8) (N := some 55) (v := ?_) (a' := ?_) #[true, true, true, true, true, true, true, true, true, false, false, false, false, false, false, false, false, false, false, false, false, false, false, false, false, false, false, false, false, false, false, false, false, false, false, false, false, false] rfl rfl (any_of HT_.out (by kernel_rfl)) (fun _ _ _ h => h) (Or.inl ⟨by rfl, ?_⟩) ?_ ?_
          rotate_left
          ·intro w'
           go_simp
           first | with_reducible rfl | (rw [if_neg (by have h1_ : (⟨#[10]⟩ : ByteArray).size = 1 := rfl; (try have hc8_ := of_decide_eq_true c8b1); (try have hc9_ := of_decide_eq_true c9b1); (try have hc10_ := of_decide_eq_true c10b1); (try have hc11_ := of_decide_eq_true c11b1); (try have hc13_ := of_decide_eq_true c13b1); (try simp only [ByteArray.size_append, ByteArray.size_extract] at hc8_); (try simp only [ByteArray.size_append, ByteArray.size_extract] at hc9_); (try simp only [ByteArray.size_append, ByteArray.size_extract] at hc10_); (try simp only [ByteArray.size_append, ByteArray.size_extract] at hc11_); (try simp only [ByteArray.size_append, ByteArray.size_extract] at hc13_); omega)]; try with_reducible rfl)
          rotate_left
          ·simp only [Act.put, List.setIfInBounds_toArray, List.set_cons_zero, List.set_cons_succ, i64_w, i32_w]
           rfl
          refine pure_ (i := 9) (N := some 56) (v := ?_) (a' := ?_) #[true, true, true, true, true, true, true, true, true, true, false, false, false, false, false, false, false, false, false, false, false, false, false, false, false, false, false, false, false, false, false, false, false, false, false, false, false, false] rfl rfl (any_of HT_.out (by kernel_rfl)) (fun _ _ _ h => h) (Or.inl ⟨by rfl, ?_⟩) ?_ ?_
          rotate_left
          ·intro w'
           go_simp
           first | with_reducible rfl | (rw [if_neg (by have h1_ : (⟨#[10]⟩ : ByteArray).size = 1 := rfl; (try have hc8_ := of_decide_eq_true c8b1); (try have hc9_ := of_decide_eq_true c9b1); (try have hc10_ := of_decide_eq_true c10b1); (try have hc11_ := of_decide_eq_true c11b1); (try have hc13_ := of_decide_eq_true c13b1); (try simp only [ByteArray.size_append, ByteArray.size_extract] at hc8_); (try simp only [ByteArray.size_append, ByteArray.size_extract] at hc9_); (try simp only [ByteArray.size_append, ByteArray.size_extract] at hc10_); (try simp only [ByteArray.size_append, ByteArray.size_extract] at hc11_); (try simp only [ByteArray.size_append, ByteArray.size_extract] at hc13_); omega)]; try with_reducible rfl)
          rotate_left
          ·simp only [Act.put, List.setIfInBounds_toArray, List.set_cons_zero, List.set_cons_succ, i64_w, i32_w]
           rfl
          refine pure_ (i := 10) (N := some 57) (v := undef) (a' := ?_) #[true, true, true, true, true, true, true, true, true, true, true, false, false, false, false, false, false, false, false, false, false, false, false, false, false, false, false, false, false, false, false, false, false, false, false, false, false, false] rfl rfl (any_of HT_.out (by kernel_rfl)) (fun _ _ _ h => h) (Or.inr ⟨by rfl, rfl⟩) ?_ ?_
          rotate_left
          ·simp only [Act.put, List.setIfInBounds_toArray, List.set_cons_zero, List.set_cons_succ, i64_w, i32_w]
           rfl
          refine pure_ (i := 11) (N := some 58) (v := undef) (a' := ?_) #[true, true, true, true, true, true, true, true, true, true, true, true, false, false, false, false, false, false, false, false, false, false, false, false, false, false, false, false, false, false, false, false, false, false, false, false, false, false] rfl rfl (any_of HT_.out (by kernel_rfl)) (fun _ _ _ h => h) (Or.inr ⟨by rfl, rfl⟩) ?_ ?_
          rotate_left
          ·simp only [Act.put, List.setIfInBounds_toArray, List.set_cons_zero, List.set_cons_succ, i64_w, i32_w]
           rfl
          refine pure_ (i := 12) (N := some 59) (v := undef) (a' := ?_) #[true, true, true, true, true, true, true, true, true, true, true, true, true, false, false, false, false, false, false, false, false, false, false, false, false, false, false, false, false, false, false, false, false, false, false, false, false, false] rfl rfl (any_of HT_.out (by kernel_rfl)) (fun _ _ _ h => h) (Or.inr ⟨by rfl, rfl⟩) ?_ ?_
          rotate_left
          ·simp only [Act.put, List.setIfInBounds_toArray, List.set_cons_zero, List.set_cons_succ, i64_w, i32_w]
           rfl
          refine pure_ (i := 13) (N := some 60) (v := undef) (a' := ?_) #[true, true, true, true, true, true, true, true, true, true, true, true, true, true, false, false, false, false, false, false, false, false, false, false, false, false, false, false, false, false, false, false, false, false, false, false, false, false] rfl rfl (any_of HT_.out (by kernel_rfl)) (fun _ _ _ h => h) (Or.inr ⟨by rfl, rfl⟩) ?_ ?_
          rotate_left
          ·simp only [Act.put, List.setIfInBounds_toArray, List.set_cons_zero, List.set_cons_succ, i64_w, i32_w]
           rfl
          refine pure_ (i := 14) (N := some 61) (v := undef) (a' := ?_) #[true, true, true, true, true, true, true, true, true, true, true, true, true, true, true, false, false, false, false, false, false, false, false, false, false, false, false, false, false, false, false, false, false, false, false, false, false, false] rfl rfl (any_of HT_.out (by kernel_rfl)) (fun _ _ _ h => h) (Or.inr ⟨by rfl, rfl⟩) ?_ ?_
          rotate_left
          ·simp only [Act.put, List.setIfInBounds_toArray, List.set_cons_zero, List.set_cons_succ, i64_w, i32_w]
           rfl
          refine pure_ (i := 15) (N := some 62) (v := ?_) (a' := ?_) #[true, true, true, true, true, true, true, true, true, true, true, true, true, true, true, true, false, false, false, false, false, false, false, false, false, false, false, false, false, false, false, false, false, false, false, false, false, false] rfl rfl (any_of HT_.out (by kernel_rfl)) (fun _ _ _ h => h) (Or.inl ⟨by rfl, ?_⟩) ?_ ?_
          rotate_left
          ·intro w'
           go_simp
           first | with_reducible rfl | (rw [if_neg (by have h1_ : (⟨#[10]⟩ : ByteArray).size = 1 := rfl; (try have hc8_ := of_decide_eq_true c8b1); (try have hc9_ := of_decide_eq_true c9b1); (try have hc10_ := of_decide_eq_true c10b1); (try have hc11_ := of_decide_eq_true c11b1); (try have hc13_ := of_decide_eq_true c13b1); (try simp only [ByteArray.size_append, ByteArray.size_extract] at hc8_); (try simp only [ByteArray.size_append, ByteArray.size_extract] at hc9_); (try simp only [ByteArray.size_append, ByteArray.size_extract] at hc10_); (try simp only [ByteArray.size_append, ByteArray.size_extract] at hc11_); (try simp only [ByteArray.size_append, ByteArray.size_extract] at hc13_); omega)]; try with_reducible rfl)
          rotate_left
          ·simp only [Act.put, List.setIfInBounds_toArray, List.set_cons_zero, List.set_cons_succ, i64_w, i32_w]
           rfl
          refine pure_ (i := 16) (N := some 63) (v := ?_) (a' := ?_) #[true, true, true, true, true, true, true, true, true, true, true, true, true, true, true, true, true, false, false, false, false, false, false, false, false, false, false, false, false, false, false, false, false, false, false, false, false, false] rfl rfl (any_of HT_.out (by kernel_rfl)) (fun _ _ _ h => h) (Or.inl ⟨by rfl, ?_⟩) ?_ ?_
          rotate_left
          ·intro w'
           go_simp
           first | with_reducible rfl | (rw [if_neg (by have h1_ : (⟨#[10]⟩ : ByteArray).size = 1 := rfl; (try have hc8_ := of_decide_eq_true c8b1); (try have hc9_ := of_decide_eq_true c9b1); (try have hc10_ := of_decide_eq_true c10b1); (try have hc11_ := of_decide_eq_true c11b1); (try have hc13_ := of_decide_eq_true c13b1); (try simp only [ByteArray.size_append, ByteArray.size_extract] at hc8_); (try simp only [ByteArray.size_append, ByteArray.size_extract] at hc9_); (try simp only [ByteArray.size_append, ByteArray.size_extract] at hc10_); (try simp only [ByteArray.size_append, ByteArray.size_extract] at hc11_); (try simp only [ByteArray.size_append, ByteArray.size_extract] at hc13_); omega)]; try with_reducible rfl)
          rotate_left
          ·simp only [Act.put, List.setIfInBounds_toArray, List.set_cons_zero, List.set_cons_succ, i64_w, i32_w]
           rfl
          refine pure_ (i := 17) (N := some 64) (v := undef) (a' := ?_) #[true, true, true, true, true, true, true, true, true, true, true, true, true, true, true, true, true, true, false, false, false, false, false, false, false, false, false, false, false, false, false, false, false, false, false, false, false, false] rfl rfl (any_of HT_.out (by kernel_rfl)) (fun _ _ _ h => h) (Or.inr ⟨by rfl, rfl⟩) ?_ ?_
          rotate_left
          ·simp only [Act.put, List.setIfInBounds_toArray, List.set_cons_zero, List.set_cons_succ, i64_w, i32_w]
           rfl
          refine pure_ (i := 18) (N := some 65) (v := undef) (a' := ?_) #[true, true, true, true, true, true, true, true, true, true, true, true, true, true, true, true, true, true, true, false, false, false, false, false, false, false, false, false, false, false, false, false, false, false, false, false, false, false] rfl rfl (any_of HT_.out (by kernel_rfl)) (fun _ _ _ h => h) (Or.inr ⟨by rfl, rfl⟩) ?_ ?_
          rotate_left
          ·simp only [Act.put, List.setIfInBounds_toArray, List.set_cons_zero, List.set_cons_succ, i64_w, i32_w]
           rfl
          refine pure_ (i := 19) (N := some 66) (v := undef) (a' := ?_) #[true, true, true, true, true, true, true, true, true, true, true, true, true, true, true, true, true, true, true, true, false, false, false, false, false, false, false, false, false, false, false, false, false, false, false, false, false, false] rfl rfl (any_of HT_.out (by kernel_rfl)) (fun _ _ _ h => h) (Or.inr ⟨by rfl, rfl⟩) ?_ ?_
          rotate_left
          ·simp only [Act.put, List.setIfInBounds_toArray, List.set_cons_zero, List.set_cons_succ, i64_w, i32_w]
           rfl
          refine pure_ (i := 20) (N := some 67) (v := undef) (a' := ?_) #[true, true, true, true, true, true, true, true, true, true, true, true, true, true, true, true, true, true, true, true, true, false, false, false, false, false, false, false, false, false, false, false, false, false, false, false, false, false] rfl rfl (any_of HT_.out (by kernel_rfl)) (fun _ _ _ h => h) (Or.inr ⟨by rfl, rfl⟩) ?_ ?_
          rotate_left
          ·simp only [Act.put, List.setIfInBounds_toArray, List.set_cons_zero, List.set_cons_succ, i64_w, i32_w]
           rfl
          refine pure_ (i := 21) (N := some 68) (v := undef) (a' := ?_) #[true, true, true, true, true, true, true, true, true, true, true, true, true, true, true, true, true, true, true, true, true, true, false, false, false, false, false, false, false, false, false, false, false, false, false, false, false, false] rfl rfl (any_of HT_.out (by kernel_rfl)) (fun _ _ _ h => h) (Or.inr ⟨by rfl, rfl⟩) ?_ ?_
          rotate_left
          ·simp only [Act.put, List.setIfInBounds_toArray, List.set_cons_zero, List.set_cons_succ, i64_w, i32_w]
           rfl
          refine pure_ (i := 22) (N := some 69) (v := undef) (a' := ?_) #[true, true, true, true, true, true, true, true, true, true, true, true, true, true, true, true, true, true, true, true, true, true, true, false, false, false, false, false, false, false, false, false, false, false, false, false, false, false] rfl rfl (any_of HT_.out (by kernel_rfl)) (fun _ _ _ h => h) (Or.inr ⟨by rfl, rfl⟩) ?_ ?_
          rotate_left
          ·simp only [Act.put, List.setIfInBounds_toArray, List.set_cons_zero, List.set_cons_succ, i64_w, i32_w]
           rfl
          refine pure_ (i := 23) (N := some 70) (v := ?_) (a' := ?_) #[true, true, true, true, true, true, true, true, true, true, true, true, true, true, true, true, true, true, true, true, true, true, true, true, false, false, false, false, false, false, false, false, false, false, false, false, false, false] rfl rfl (any_of HT_.out (by kernel_rfl)) (fun _ _ _ h => h) (Or.inl ⟨by rfl, ?_⟩) ?_ ?_
          rotate_left
          ·intro w'
           go_simp
           first | with_reducible rfl | (rw [if_neg (by have h1_ : (⟨#[10]⟩ : ByteArray).size = 1 := rfl; (try have hc8_ := of_decide_eq_true c8b1); (try have hc9_ := of_decide_eq_true c9b1); (try have hc10_ := of_decide_eq_true c10b1); (try have hc11_ := of_decide_eq_true c11b1); (try have hc13_ := of_decide_eq_true c13b1); (try simp only [ByteArray.size_append, ByteArray.size_extract] at hc8_); (try simp only [ByteArray.size_append, ByteArray.size_extract] at hc9_); (try simp only [ByteArray.size_append, ByteArray.size_extract] at hc10_); (try simp only [ByteArray.size_append, ByteArray.size_extract] at hc11_); (try simp only [ByteArray.size_append, ByteArray.size_extract] at hc13_); omega)]; try with_reducible rfl)
          rotate_left
          ·simp only [Act.put, List.setIfInBounds_toArray, List.set_cons_zero, List.set_cons_succ, i64_w, i32_w]
           rfl
          refine pure_ (i := 24) (N := some 71) (v := ?_) (a' := ?_) #[true, true, true, true, true, true, true, true, true, true, true, true, true, true, true, true, true, true, true, true, true, true, true, true, true, false, false, false, false, false, false, false, false, false, false, false, false, false] rfl rfl (any_of HT_.out (by kernel_rfl)) (fun _ _ _ h => h) (Or.inl ⟨by rfl, ?_⟩) ?_ ?_
          rotate_left
          ·intro w'
           go_simp
           first | with_reducible rfl | (rw [if_neg (by have h1_ : (⟨#[10]⟩ : ByteArray).size = 1 := rfl; (try have hc8_ := of_decide_eq_true c8b1); (try have hc9_ := of_decide_eq_true c9b1); (try have hc10_ := of_decide_eq_true c10b1); (try have hc11_ := of_decide_eq_true c11b1); (try have hc13_ := of_decide_eq_true c13b1); (try simp only [ByteArray.size_append, ByteArray.size_extract] at hc8_); (try simp only [ByteArray.size_append, ByteArray.size_extract] at hc9_); (try simp only [ByteArray.size_append, ByteArray.size_extract] at hc10_); (try simp only [ByteArray.size_append, ByteArray.size_extract] at hc11_); (try simp only [ByteArray.size_append, ByteArray.size_extract] at hc13_); omega)]; try with_reducible rfl)
          rotate_left
          ·simp only [Act.put, List.setIfInBounds_toArray, List.set_cons_zero, List.set_cons_succ, i64_w, i32_w]
           rfl
          refine pure_ (i := 25) (N := some 72) (v := undef) (a' := ?_) #[true, true, true, true, true, true, true, true, true, true, true, true, true, true, true, true, true, true, true, true, true, true, true, true, true, true, false, false, false, false, false, false, false, false, false, false, false, false] rfl rfl (any_of HT_.out (by kernel_rfl)) (fun _ _ _ h => h) (Or.inr ⟨by rfl, rfl⟩) ?_ ?_
          rotate_left
          ·simp only [Act.put, List.setIfInBounds_toArray, List.set_cons_zero, List.set_cons_succ, i64_w, i32_w]
           rfl
          refine pure_ (i := 26) (N := some 73) (v := undef) (a' := ?_) #[true, true, true, true, true, true, true, true, true, true, true, true, true, true, true, true, true, true, true, true, true, true, true, true, true, true, true, false, false, false, false, false, false, false, false, false, false, false] rfl rfl (any_of HT_.out (by kernel_rfl)) (fun _ _ _ h => h) (Or.inr ⟨by rfl, rfl⟩) ?_ ?_
          rotate_left
          ·simp only [Act.put, List.setIfInBounds_toArray, List.set_cons_zero, List.set_cons_succ, i64_w, i32_w]
           rfl
          refine pure_ (i := 27) (N := some 74) (v := undef) (a' := ?_) #[true, true, true, true, true, true, true, true, true, true, true, true, true, true, true, true, true, true, true, true, true, true, true, true, true, true, true, true, false, false, false, false, false, false, false, false, false, false] rfl rfl (any_of HT_.out (by kernel_rfl)) (fun _ _ _ h => h) (Or.inr ⟨by rfl, rfl⟩) ?_ ?_
          rotate_left
          ·simp only [Act.put, List.setIfInBounds_toArray, List.set_cons_zero, List.set_cons_succ, i64_w, i32_w]
           rfl
          refine pure_ (i := 28) (N := some 75) (v := undef) (a' := ?_) #[true, true, true, true, true, true, true, true, true, true, true, true, true, true, true, true, true, true, true, true, true, true, true, true, true, true, true, true, true, false, false, false, false, false, false, false, false, false] rfl rfl (any_of HT_.out (by kernel_rfl)) (fun _ _ _ h => h) (Or.inr ⟨by rfl, rfl⟩) ?_ ?_
          rotate_left
          ·simp only [Act.put, List.setIfInBounds_toArray, List.set_cons_zero, List.set_cons_succ, i64_w, i32_w]
           rfl
          refine pure_ (i := 29) (N := some 76) (v := undef) (a' := ?_) #[true, true, true, true, true, true, true, true, true, true, true, true, true, true, true, true, true, true, true, true, true, true, true, true, true, true, true, true, true, true, false, false, false, false, false, false, false, false] rfl rfl (any_of HT_.out (by kernel_rfl)) (fun _ _ _ h => h) (Or.inr ⟨by rfl, rfl⟩) ?_ ?_
          rotate_left
          ·simp only [Act.put, List.setIfInBounds_toArray, List.set_cons_zero, List.set_cons_succ, i64_w, i32_w]
           rfl
          refine pure_ (i := 30) (N := some 77) (v := undef) (a' := ?_) #[true, true, true, true, true, true, true, true, true, true, true, true, true, true, true, true, true, true, true, true, true, true, true, true, true, true, true, true, true, true, true, false, false, false, false, false, false, false] rfl rfl (any_of HT_.out (by kernel_rfl)) (fun _ _ _ h => h) (Or.inr ⟨by rfl, rfl⟩) ?_ ?_
          rotate_left
          ·simp only [Act.put, List.setIfInBounds_toArray, List.set_cons_zero, List.set_cons_succ, i64_w, i32_w]
           rfl
          refine pure_ (i := 31) (N := some 78) (v := undef) (a' := ?_) #[true, true, true, true, true, true, true, true, true, true, true, true, true, true, true, true, true, true, true, true, true, true, true, true, true, true, true, true, true, true, true, true, false, false, false, false, false, false] rfl rfl (any_of HT_.out (by kernel_rfl)) (fun _ _ _ h => h) (Or.inr ⟨by rfl, rfl⟩) ?_ ?_
          rotate_left
          ·simp only [Act.put, List.setIfInBounds_toArray, List.set_cons_zero, List.set_cons_succ, i64_w, i32_w]
           rfl
          refine pure_ (i := 32) (N := some 79) (v := undef) (a' := ?_) #[true, true, true, true, true, true, true, true, true, true, true, true, true, true, true, true, true, true, true, true, true, true, true, true, true, true, true, true, true, true, true, true, true, false, false, false, false, false] rfl rfl (any_of HT_.out (by kernel_rfl)) (fun _ _ _ h => h) (Or.inr ⟨by rfl, rfl⟩) ?_ ?_
          rotate_left
          ·simp only [Act.put, List.setIfInBounds_toArray, List.set_cons_zero, List.set_cons_succ, i64_w, i32_w]
           rfl
          refine pure_ (i := 33) (N := some 80) (v := undef) (a' := ?_) #[true, true, true, true, true, true, true, true, true, true, true, true, true, true, true, true, true, true, true, true, true, true, true, true, true, true, true, true, true, true, true, true, true, true, false, false, false, false] rfl rfl (any_of HT_.out (by kernel_rfl)) (fun _ _ _ h => h) (Or.inr ⟨by rfl, rfl⟩) ?_ ?_
          rotate_left
          ·simp only [Act.put, List.setIfInBounds_toArray, List.set_cons_zero, List.set_cons_succ, i64_w, i32_w]
           rfl
          refine pure_ (i := 34) (N := some 81) (v := undef) (a' := ?_) #[true, true, true, true, true, true, true, true, true, true, true, true, true, true, true, true, true, true, true, true, true, true, true, true, true, true, true, true, true, true, true, true, true, true, true, false, false, false] rfl rfl (any_of HT_.out (by kernel_rfl)) (fun _ _ _ h => h) (Or.inr ⟨by rfl, rfl⟩) ?_ ?_
          rotate_left
          ·simp only [Act.put, List.setIfInBounds_toArray, List.set_cons_zero, List.set_cons_succ, i64_w, i32_w]
           rfl
          refine pure_ (i := 35) (N := some 82) (v := undef) (a' := ?_) #[true, true, true, true, true, true, true, true, true, true, true, true, true, true, true, true, true, true, true, true, true, true, true, true, true, true, true, true, true, true, true, true, true, true, true, true, false, false] rfl rfl (any_of HT_.out (by kernel_rfl)) (fun _ _ _ h => h) (Or.inr ⟨by rfl, rfl⟩) ?_ ?_
          rotate_left
          ·simp only [Act.put, List.setIfInBounds_toArray, List.set_cons_zero, List.set_cons_succ, i64_w, i32_w]
           rfl
          refine pure_ (i := 36) (N := some 83) (v := ?_) (a' := ?_) #[true, true, true, true, true, true, true, true, true, true, true, true, true, true, true, true, true, true, true, true, true, true, true, true, true, true, true, true, true, true, true, true, true, true, true, true, true, false] rfl rfl (any_of HT_.out (by kernel_rfl)) (fun _ _ _ h => h) (Or.inl ⟨by rfl, ?_⟩) ?_ ?_
          rotate_left
          ·intro w'
           go_simp
           first | with_reducible rfl | (rw [if_neg (by have h1_ : (⟨#[10]⟩ : ByteArray).size = 1 := rfl; (try have hc8_ := of_decide_eq_true c8b1); (try have hc9_ := of_decide_eq_true c9b1); (try have hc10_ := of_decide_eq_true c10b1); (try have hc11_ := of_decide_eq_true c11b1); (try have hc13_ := of_decide_eq_true c13b1); (try simp only [ByteArray.size_append, ByteArray.size_extract] at hc8_); (try simp only [ByteArray.size_append, ByteArray.size_extract] at hc9_); (try simp only [ByteArray.size_append, ByteArray.size_extract] at hc10_); (try simp only [ByteArray.size_append, ByteArray.size_extract] at hc11_); (try simp only [ByteArray.size_append, ByteArray.size_extract] at hc13_); omega)]; try with_reducible rfl)
          rotate_left
          ·simp only [Act.put, List.setIfInBounds_toArray, List.set_cons_zero, List.set_cons_succ, i64_w, i32_w]
           rfl
          refine pure_ (i := 37) (N := some 6) (v := ?_) (a' := ?_) #[true, true, true, true, true, true, true, true, true, true, true, true, true, true, true, true, true, true, true, true, true, true, true, true, true, true, true, true, true, true, true, true, true, true, true, true, true, true] rfl rfl (any_of HT_.out (by kernel_rfl)) (fun _ _ _ h => h) (Or.inl ⟨by rfl, ?_⟩) ?_ ?_
          rotate_left
          ·intro w'
           go_simp
           first | with_reducible rfl | (rw [if_neg (by have h1_ : (⟨#[10]⟩ : ByteArray).size = 1 := rfl; (try have hc8_ := of_decide_eq_true c8b1); (try have hc9_ := of_decide_eq_true c9b1); (try have hc10_ := of_decide_eq_true c10b1); (try have hc11_ := of_decide_eq_true c11b1); (try have hc13_ := of_decide_eq_true c13b1); (try simp only [ByteArray.size_append, ByteArray.size_extract] at hc8_); (try simp only [ByteArray.size_append, ByteArray.size_extract] at hc9_); (try simp only [ByteArray.size_append, ByteArray.size_extract] at hc10_); (try simp only [ByteArray.size_append, ByteArray.size_extract] at hc11_); (try simp only [ByteArray.size_append, ByteArray.size_extract] at hc13_); omega)]; try with_reducible rfl)
          rotate_left
          ·simp only [Act.put, List.setIfInBounds_toArray, List.set_cons_zero, List.set_cons_succ, i64_w, i32_w]
           rfl
          refine done_ (done_of HT_.out (by kernel_rfl)) ?_
          try go_wp2
          go_ret
          exact ⟨by first | rfl | (simp [errW_none, errW_some] <;> rfl) | (simp only [← hji7]; first | rfl | (simp [errW_none, errW_some] <;> rfl)) | (simp [*, errW_none, errW_some] <;> rfl), by repeat (first | (with_reducible first | exact HB.out | apply below_alloc | apply pw_below_drewN | apply below_drew1) | exact HB.out)⟩
        ·rw [if_neg c16] at H
         have c16b0 : ((t225.length : Int) == 3) = false := beq_eq_false_iff_ne.mpr c16
         have c16b1 : ((t225.length : Int) != 3) = true := bne_iff_ne.mpr c16
         obtain rfl := Option.some.inj H
         go_enter Tryd.func10, Tryd.ntmps10
         go_wp2_with (first | ((with_reducible refine gate_callee (f := 11) rfl ?_); refine goesL_ (some 13) rfl rfl Tryd.func11 (by kernel_rfl) rfl #[] rfl (by (try simp only [List.map_toArray, List.map_cons, List.map_nil]); first | done | rfl | (simp only [List.length_drop, List.length_take]; rfl)) ?_; (with_reducible refine (pandectlaw05_head.calls  t222 _ A4.out).mono ?_); rintro e w45 ⟨rfl, hb⟩; refine ⟨_, rfl, ?_⟩; have n0_ := Aside0.mk (below_step (by repeat (first | (with_reducible first | exact HB.out | apply below_alloc | apply pw_below_drewN | apply below_drew1) | exact HB.out)) hb); clear HB; have HB := n0_; clear n0_; (try clear hb); (try clear hb2); (try clear hk); (try clear hi)) | ((with_reducible refine gate_callee (f := 18) rfl ?_); refine goesL_ (some 15) rfl rfl Tryd.func18 (by kernel_rfl) rfl #[.string a0] rfl (by (try simp only [List.map_toArray, List.map_cons, List.map_nil]); first | done | rfl | (simp only [List.length_drop, List.length_take]; rfl)) ?_; (with_reducible refine (pandectref05_Name.calls k a0 true _ A5.out).mono ?_); rintro e w' ⟨rfl, ⟨nd, rfl⟩⟩; refine ⟨_, rfl, ?_⟩) | ((with_reducible refine gate_callee (f := 19) rfl ?_); refine goesL_ (some 34) rfl rfl Tryd.func19 (by kernel_rfl) rfl #[.int .i64 (wrap64 (Int.tmod a1 10000000))] rfl (by (try simp only [List.map_toArray, List.map_cons, List.map_nil]); first | done | rfl | (simp only [List.length_drop, List.length_take]; rfl)) ?_; (with_reducible refine (pandectref05_Decimal.calls k (wrap64 (Int.tmod a1 10000000)) t224 _ A12.out).mono ?_); rintro e w' ⟨rfl, ⟨nd, rfl⟩⟩; refine ⟨_, rfl, ?_⟩) | ((with_reducible refine gate_callee (f := 12) rfl ?_); refine goesL_ (some 36) rfl rfl Tryd.func12 (by kernel_rfl) rfl #[.string ((a0 ++ ((⟨#[61, 59, 60, 62, 40, 41, 123, 125, 91, 93, 44, 46, 58]⟩ : ByteArray).extract ((ji7) : Int).toNat ((wrap64 ((ji7) + 1)) : Int).toNat)) ++ t224)] rfl (by (try simp only [List.map_toArray, List.map_cons, List.map_nil]); first | done | (simp only [hji7]; rfl) | rfl | (simp only [List.length_drop, List.length_take]; rfl)) ?_; (with_reducible refine (lexer_Lex.calls ((a0 ++ ((⟨#[61, 59, 60, 62, 40, 41, 123, 125, 91, 93, 44, 46, 58]⟩ : ByteArray).extract ((ji7) : Int).toNat ((wrap64 ((ji7) + 1)) : Int).toNat)) ++ t224) t225 t226 t227 _ A14.out).mono ?_); rintro e w46 ⟨v228, rfl, ho0, hb⟩; refine ⟨_, rfl, ?_⟩; have n0_ := Aside0.mk (Kd.R_lower ho0 (below_size (by repeat (first | (with_reducible first | exact HB.out | apply below_alloc | apply pw_below_drewN | apply below_drew1) | exact HB.out)))); have n1_ := Aside0.mk (below_step (by repeat (first | (with_reducible first | exact HB.out | apply below_alloc | apply pw_below_drewN | apply below_drew1) | exact HB.out)) hb); clear HB; have HO229 := n0_; have HB := n1_; clear n0_ n1_; (try clear hb); (try clear hb2); (try clear hk); (try clear hi); (try clear ho0); obtain ⟨Ao47, co47, eo47⟩ := Kd.R_slice HO229.out; subst eo47))
         go_ret
         exact ⟨by first | rfl | (simp [errW_none, errW_some] <;> rfl) | (simp only [← hji7]; first | rfl | (simp [errW_none, errW_some] <;> rfl)) | (simp [*, errW_none, errW_some] <;> rfl), by repeat (first | (with_reducible first | exact HB.out | apply below_alloc | apply pw_below_drewN | apply below_drew1) | exact HB.out)⟩
       ·rw [if_neg c15] at H
        have c15b0 : (t226 == 0) = false := beq_eq_false_iff_ne.mpr c15
        have c15b1 : (t226 != 0) = true := bne_iff_ne.mpr c15
        obtain rfl := Option.some.inj H
        go_enter Tryd.func10, Tryd.ntmps10
        go_wp2_with (first | ((with_reducible refine gate_callee (f := 11) rfl ?_); refine goesL_ (some 13) rfl rfl Tryd.func11 (by kernel_rfl) rfl #[] rfl (by (try simp only [List.map_toArray, List.map_cons, List.map_nil]); first | done | rfl | (simp only [List.length_drop, List.length_take]; rfl)) ?_; (with_reducible refine (pandectlaw05_head.calls  t222 _ A4.out).mono ?_); rintro e w48 ⟨rfl, hb⟩; refine ⟨_, rfl, ?_⟩; have n0_ := Aside0.mk (below_step (by repeat (first | (with_reducible first | exact HB.out | apply below_alloc | apply pw_below_drewN | apply below_drew1) | exact HB.out)) hb); clear HB; have HB := n0_; clear n0_; (try clear hb); (try clear hb2); (try clear hk); (try clear hi)) | ((with_reducible refine gate_callee (f := 18) rfl ?_); refine goesL_ (some 15) rfl rfl Tryd.func18 (by kernel_rfl) rfl #[.string a0] rfl (by (try simp only [List.map_toArray, List.map_cons, List.map_nil]); first | done | rfl | (simp only [List.length_drop, List.length_take]; rfl)) ?_; (with_reducible refine (pandectref05_Name.calls k a0 true _ A5.out).mono ?_); rintro e w' ⟨rfl, ⟨nd, rfl⟩⟩; refine ⟨_, rfl, ?_⟩) | ((with_reducible refine gate_callee (f := 19) rfl ?_); refine goesL_ (some 34) rfl rfl Tryd.func19 (by kernel_rfl) rfl #[.int .i64 (wrap64 (Int.tmod a1 10000000))] rfl (by (try simp only [List.map_toArray, List.map_cons, List.map_nil]); first | done | rfl | (simp only [List.length_drop, List.length_take]; rfl)) ?_; (with_reducible refine (pandectref05_Decimal.calls k (wrap64 (Int.tmod a1 10000000)) t224 _ A12.out).mono ?_); rintro e w' ⟨rfl, ⟨nd, rfl⟩⟩; refine ⟨_, rfl, ?_⟩) | ((with_reducible refine gate_callee (f := 12) rfl ?_); refine goesL_ (some 36) rfl rfl Tryd.func12 (by kernel_rfl) rfl #[.string ((a0 ++ ((⟨#[61, 59, 60, 62, 40, 41, 123, 125, 91, 93, 44, 46, 58]⟩ : ByteArray).extract ((ji7) : Int).toNat ((wrap64 ((ji7) + 1)) : Int).toNat)) ++ t224)] rfl (by (try simp only [List.map_toArray, List.map_cons, List.map_nil]); first | done | (simp only [hji7]; rfl) | rfl | (simp only [List.length_drop, List.length_take]; rfl)) ?_; (with_reducible refine (lexer_Lex.calls ((a0 ++ ((⟨#[61, 59, 60, 62, 40, 41, 123, 125, 91, 93, 44, 46, 58]⟩ : ByteArray).extract ((ji7) : Int).toNat ((wrap64 ((ji7) + 1)) : Int).toNat)) ++ t224) t225 t226 t227 _ A14.out).mono ?_); rintro e w49 ⟨v228, rfl, ho0, hb⟩; refine ⟨_, rfl, ?_⟩; have n0_ := Aside0.mk (Kd.R_lower ho0 (below_size (by repeat (first | (with_reducible first | exact HB.out | apply below_alloc | apply pw_below_drewN | apply below_drew1) | exact HB.out)))); have n1_ := Aside0.mk (below_step (by repeat (first | (with_reducible first | exact HB.out | apply below_alloc | apply pw_below_drewN | apply below_drew1) | exact HB.out)) hb); clear HB; have HO229 := n0_; have HB := n1_; clear n0_ n1_; (try clear hb); (try clear hb2); (try clear hk); (try clear hi); (try clear ho0)))
        go_ret
        exact ⟨by first | rfl | (simp [errW_none, errW_some] <;> rfl) | (simp only [← hji7]; first | rfl | (simp [errW_none, errW_some] <;> rfl)) | (simp [*, errW_none, errW_some] <;> rfl), by repeat (first | (with_reducible first | exact HB.out | apply below_alloc | apply pw_below_drewN | apply below_drew1) | exact HB.out)⟩
      ·rw [if_neg c13] at H
       exact absurd H (by simp)
     ·rw [if_neg c11] at H
      exact absurd H (by simp)
    ·rw [if_neg c10] at H
     exact absurd H (by simp)
   ·rw [if_neg c9] at H
    exact absurd H (by simp)
  ·rw [if_neg c8] at H
   exact absurd H (by simp)
 ·replace c6 := Bool.eq_false_iff.mpr c6
  subst c6
  have H1 : (some t222) = some r := by rw [if_neg (show ¬ (false = true) by decide)] at H; exact H
  clear H
  have H := H1
  clear H1
  obtain rfl := Option.some.inj H
  go_enter Tryd.func10, Tryd.ntmps10
  go_wp2_with (first | ((with_reducible refine gate_callee (f := 11) rfl ?_); refine goesL_ (some 13) rfl rfl Tryd.func11 (by kernel_rfl) rfl #[] rfl (by (try simp only [List.map_toArray, List.map_cons, List.map_nil]); first | done | rfl | (simp only [List.length_drop, List.length_take]; rfl)) ?_; (with_reducible refine (pandectlaw05_head.calls  t222 _ A4.out).mono ?_); rintro e w50 ⟨rfl, hb⟩; refine ⟨_, rfl, ?_⟩; have n0_ := Aside0.mk (below_step (by repeat (first | (with_reducible first | exact HB.out | apply below_alloc | apply pw_below_drewN | apply below_drew1) | exact HB.out)) hb); clear HB; have HB := n0_; clear n0_; (try clear hb); (try clear hb2); (try clear hk); (try clear hi)) | ((with_reducible refine gate_callee (f := 18) rfl ?_); refine goesL_ (some 15) rfl rfl Tryd.func18 (by kernel_rfl) rfl #[.string a0] rfl (by (try simp only [List.map_toArray, List.map_cons, List.map_nil]); first | done | rfl | (simp only [List.length_drop, List.length_take]; rfl)) ?_; (with_reducible refine (pandectref05_Name.calls k a0 false _ A5.out).mono ?_); rintro e w' ⟨rfl, ⟨nd, rfl⟩⟩; refine ⟨_, rfl, ?_⟩))
  go_ret
  exact ⟨by first | rfl | (simp [errW_none, errW_some] <;> rfl) | (simp [*, errW_none, errW_some] <;> rfl), by repeat (first | (with_reducible first | exact HB.out | apply below_alloc | apply pw_below_drewN | apply below_drew1) | exact HB.out)⟩

/-- THE ONE PURE STATEMENT of pandectlaw05_LexerWords: yours. -/
def pandectlaw05_LexerWords.Pure : Prop := ∀ (a0 : ByteArray) (a1 : Int) (a2 : Int), a0.size ≤ 140737488351232 → (Lit.int .u64 a1).wf = true → (Lit.int .u8 a2).wf = true → ∃ k, pandectlaw05_LexerWords.f k a0 a1 a2 = some true
theorem pandectlaw05_LexerWords.walk (P : pandectlaw05_LexerWords.Pure) (a0 : ByteArray) (a1 : Int) (a2 : Int) (w : World) (w0 : a0.size ≤ 140737488351232) (w1 : (Lit.int .u64 a1).wf = true) (w2 : (Lit.int .u8 a2).wf = true) :
  Calls Tryd.prog 10 #[.string a0, .int .u64 a1, .int .u8 a2] w fun e w' => e = .returned (.bool true) ∧ Below w.heap.size w w' := by
 obtain ⟨k, h⟩ := P a0 a1 a2 w0 w1 w2
 refine (pandectlaw05_LexerWords.calls k a0 a1 a2 true w h).mono ?_
 rintro e w' ⟨rfl, hd⟩
 exact ⟨rfl, hd⟩

end Go.Proofs.YtjcleemflenaoaaDoor.H
