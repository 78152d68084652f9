/- Contracts of the lexer's table of classes, of its look-up, and of the maker of its iterator. -/
import Derived.Test.YtbmmedoopjjbkaaDoorLexDefs
import Derived.Test.YtbmmedoopjjbkaaDoorProg
import Derived.Below
import Derived.WalkKit
import Derived.KernelRfl
import Derived.Laws.Rows
import Derived.Deep.WholeRow
import Derived.Deep.LoopGhost
import Derived.WalkLawsBesides
import Derived.WalkSpells
import Derived.Lib.Hide
import Derived.Test.YtbmmedoopjjbkaaDoorShelf
import Derived.Lib.Strings
import Derived.Outline
import Derived.Deep.Cut
import Derived.Laws.CopyOwn
namespace Go.Proofs.YtbmmedoopjjbkaaDoor.Lex
open Go.RowKit Go.Shelf

/-- The table before its three last stores. -/
def clsB (n : Nat) : Nat :=
  if (97 ≤ n ∧ n ≤ 122) ∨ (65 ≤ n ∧ n ≤ 90) then 3
  else if 48 ≤ n ∧ n ≤ 57 then 4
  else if n = 32 ∨ n = 9 ∨ n = 10 then 1
  else if n = 59 ∨ n = 44 ∨ n = 46 ∨ n = 58 ∨ n = 40 ∨ n = 41 ∨ n = 91 ∨ n = 93 ∨ n = 123 ∨ n = 125 ∨ n = 61 then 6
  else if n = 60 ∨ n = 62 then 7
  else 0
def tbl (i : Nat) : Array Value := ((List.range 256).map fun j => Value.int .u8 (if j < i then (clsB j : Int) else 0)).toArray
def tblF : Array Value := ((List.range 256).map fun j => Value.int .u8 (clsN j : Int)).toArray
theorem tbl_size (i : Nat) : (tbl i).size = 256 := by simp [tbl]
theorem tblF_size : tblF.size = 256 := by simp [tblF]
theorem tbl_get (i j : Nat) (h : j < 256) : (tbl i)[j]? = some (.int .u8 (if j < i then (clsB j : Int) else 0)) := by simp [tbl, h]
theorem tblF_get (j : Nat) (h : j < 256) : tblF[j]? = some (.int .u8 (clsN j : Int)) := by simp [tblF, h]
theorem tbl_one (i : Nat) : (tbl i).all (·.oneCell') = true := by simp [tbl, Value.oneCell']
theorem tblF_one : tblF.all (·.oneCell') = true := by simp [tblF, Value.oneCell']
theorem tbl_set (i : Nat) (h : i < 256) (c : Nat) (hc : clsB i = c) : (tbl i).setIfInBounds i (.int .u8 (c : Int)) = tbl (i + 1) := by
  apply Array.ext_getElem?
  intro j
  rw [Array.getElem?_setIfInBounds]
  by_cases hj : j < 256
  · rw [tbl_get i j hj, tbl_get (i + 1) j hj]
    by_cases e : i = j
    · subst e; simp [tbl_size, h, hc]
    · rw [if_neg e]; congr 2
      by_cases hl : j < i
      · rw [if_pos hl, if_pos (by omega)]
      · rw [if_neg hl, if_neg (by omega)]
  · rw [if_neg (by omega), Array.getElem?_eq_none (by rw [tbl_size]; omega), Array.getElem?_eq_none (by rw [tbl_size]; omega)]
theorem tbl_same (i : Nat) (hc : clsB i = 0) : tbl i = tbl (i + 1) := by
  apply Array.ext_getElem?
  intro j
  by_cases hj : j < 256
  · rw [tbl_get i j hj, tbl_get (i + 1) j hj]
    congr 2
    by_cases e : j = i
    · subst e; simp [hc]
    · by_cases hl : j < i
      · rw [if_pos hl, if_pos (by omega)]
      · rw [if_neg hl, if_neg (by omega)]
  · rw [Array.getElem?_eq_none (by rw [tbl_size]; omega), Array.getElem?_eq_none (by rw [tbl_size]; omega)]
theorem tbl_last : (((tbl 256).setIfInBounds 35 (.int .u8 2)).setIfInBounds 95 (.int .u8 5)).setIfInBounds 33 (.int .u8 8) = tblF := by
  apply Array.ext_getElem?
  intro j
  rw [Array.getElem?_setIfInBounds, Array.getElem?_setIfInBounds, Array.getElem?_setIfInBounds]
  simp only [Array.size_setIfInBounds, tbl_size]
  by_cases hj : j < 256
  · rw [tblF_get j hj, tbl_get 256 j hj, if_pos hj]
    by_cases e1 : 33 = j
    · subst e1; rfl
    · by_cases e2 : 95 = j
      · subst e2; rfl
      · by_cases e3 : 35 = j
        · subst e3; rfl
        · rw [if_neg e1, if_neg e2, if_neg e3]
          congr 3
          unfold clsB clsN
          simp only [show ¬ j = 33 from fun h => e1 h.symm, show ¬ j = 95 from fun h => e2 h.symm, show ¬ j = 35 from fun h => e3 h.symm, if_false]
  · rw [Array.getElem?_eq_none (by rw [tbl_size]; omega), Array.getElem?_eq_none (by rw [tblF_size]; omega)]
    rw [if_neg (by omega), if_neg (by omega), if_neg (by omega)]
theorem tbl_zero : Tryd.zeroCells66 = tbl 0 := by
  rw [show Tryd.zeroCells66 = Array.replicate 256 (.int .u8 0) from by kernel_rfl]
  apply Array.ext_getElem?
  intro j
  by_cases hj : j < 256
  · rw [tbl_get 0 j hj]; simp [hj]
  · rw [Array.getElem?_eq_none (by simp; omega), Array.getElem?_eq_none (by rw [tbl_size]; omega)]


theorem ib_ne : ∀ (l : List UInt8) (c : UInt8) (_ : ∀ b ∈ l, b ≠ c), Lib.indexByte l c = -1
  | [], _, _ => rfl
  | b :: l, c, h => by
    have h1 := ib_ne l c (fun x hx => h x (List.mem_cons_of_mem _ hx))
    have h2 : (b == c) = false := beq_eq_false_iff_ne.2 (h b List.mem_cons_self)
    simp [Lib.indexByte, h1, h2]
theorem nb_blank (i : Nat) (hi : i < 256) (hb : ¬ (i = 32 ∨ i = 9 ∨ i = 10)) : ∀ b ∈ ([32, 9, 10] : List UInt8), b ≠ i.toUInt8 := by
  intro b hm e
  have he := congrArg UInt8.toNat e
  rw [UInt8.toNat_ofNat', Nat.mod_eq_of_lt hi] at he
  simp only [List.mem_cons, List.not_mem_nil, or_false] at hm
  rcases hm with rfl | rfl | rfl <;> simp at he <;> omega
theorem nb_sym (i : Nat) (hi : i < 256) (hb : ¬ (i = 59 ∨ i = 44 ∨ i = 46 ∨ i = 58 ∨ i = 40 ∨ i = 41 ∨ i = 91 ∨ i = 93 ∨ i = 123 ∨ i = 125 ∨ i = 61)) : ∀ b ∈ ([59, 44, 46, 58, 40, 41, 91, 93, 123, 125, 61] : List UInt8), b ≠ i.toUInt8 := by
  intro b hm e
  have he := congrArg UInt8.toNat e
  rw [UInt8.toNat_ofNat', Nat.mod_eq_of_lt hi] at he
  simp only [List.mem_cons, List.not_mem_nil, or_false] at hm
  rcases hm with rfl | rfl | rfl | rfl | rfl | rfl | rfl | rfl | rfl | rfl | rfl <;> simp at he <;> omega
def blanks : ByteArray := ⟨#[32, 9, 10]⟩
def symbols : ByteArray := ⟨#[59, 44, 46, 58, 40, 41, 91, 93, 123, 125, 61]⟩
theorem ib_no (s : ByteArray) (c : Int) (w : World) (h : Lib.indexByte s.data.toList c.toNat.toUInt8 = -1) :
    Calls Tryd.prog 36 #[.string s, .int .u8 c] w fun e w' => e = .returned (.int .i64 (-1)) ∧ w' = w := by
  have := Tryd.strings_IndexByte s c w; rw [h] at this; exact this


theorem tbl_here (i : Nat) (h : i < 256) : (tbl i)[i]? = some (.int .u8 0) := by rw [tbl_get i i h, if_neg (Nat.lt_irrefl i)]

set_option maxRecDepth 100000 in
set_option maxHeartbeats 1000000 in
theorem classes_calls (w : World) : Calls Tryd.prog 32 #[] w fun e w' => e = .returned (.agg tblF) ∧ Below w.heap.size w w' := by
  have hi48 : (Tryd.prog.info? 66).map (·.size) = some 256 := by kernel_rfl
  go_enter Tryd.func32, Tryd.ntmps32
  go_wp2
  rw [tbl_zero]
  go_loopg [4] 256 (fun g s4 wx => ∃ i : Nat, i + g = 256 ∧ s4 = .int .i64 i ∧ wx = (w.alloc (.cells (tbl 0) 66)).alloc (.cells (tbl i) 66))
  case atStart => exact ⟨0, by omega, rfl, rfl⟩
  case round =>
    obtain ⟨i, hig, rfl, rfl⟩ := hrel
    cases gk with
    | zero =>
      obtain rfl : i = 256 := by omega
      have g1 : (tbl 256)[35]? = some (.int .u8 0) := by rw [tbl_get 256 35 (by omega)]; rfl
      have g2 : ((tbl 256).setIfInBounds 35 (.int .u8 2))[95]? = some (.int .u8 0) := by rw [Array.getElem?_setIfInBounds, if_neg (by omega), tbl_get 256 95 (by omega)]; rfl
      have g3 : (((tbl 256).setIfInBounds 35 (.int .u8 2)).setIfInBounds 95 (.int .u8 5))[33]? = some (.int .u8 0) := by
        rw [Array.getElem?_setIfInBounds, if_neg (by omega), Array.getElem?_setIfInBounds, if_neg (by omega), tbl_get 256 33 (by omega)]; rfl
      go_upto_region 20 with (fail)
      rw [tbl_last]
      have hB : Below w.heap.size w (((w.alloc (.cells (tbl 0) 66)).alloc (.cells tblF 66)).setRow w.heap.size tblF) :=
        below_setRow (((Below.refl _ w).alloc (Nat.le_refl _) _).alloc (by simp) _) (Nat.le_refl _) _
      have hR : (((w.alloc (.cells (tbl 0) 66)).alloc (.cells tblF 66)).setRow w.heap.size tblF).heap[w.heap.size]? = some (.cells tblF 66 (0, 0)) :=
        setRow_heap _ _ _ _ _ _ (heap_alloc2_old w _ _)
      go_wp2_with (first
        | (refine wpList_load_row rfl 66 _ rfl (w.heap.size + 1) rfl 66 tblF (0, 0) _ (heap_alloc2_new w _ _) Tryd.underlying66 rfl (by rw [tblF_size]; exact hi48) ?_)
        | (refine wpList_store_row rfl 66 _ _ rfl w.heap.size tblF rfl rfl 66 (tbl 0) (heap_alloc2_old w _ _) (by rw [tblF_size]; exact hi48) (by rw [tbl_size, tblF_size]) tblF_one ?_))
      refine bodyPost_ret (v := .agg tblF) ?_ rfl ⟨rfl, hB⟩
      exact results_cell_row rfl _ _ w.heap.size 66 tblF (0, 0) _ rfl hR Tryd.underlying66 rfl (by rw [tblF_size]; exact hi48)
    | succ g =>
      have hi : i < 256 := by omega
      have hiz : (i : Int) < 256 := by omega
      have g1 := tbl_here i hi
      have hcase : (97 ≤ i ∧ i ≤ 122) ∨ (65 ≤ i ∧ i ≤ 90) ∨ (48 ≤ i ∧ i ≤ 57) ∨ (i < 48 ∨ (57 < i ∧ i < 65) ∨ (90 < i ∧ i < 97) ∨ 122 < i) := by omega
      rcases hcase with ⟨h1, h2⟩ | ⟨h1, h2⟩ | ⟨h1, h2⟩ | hr
      · have b1 : (97 : Int) ≤ (i : Int) := by omega
        have b2 : (i : Int) ≤ 122 := by omega
        have HS := Lib.hid (tbl_set i hi 3 (by unfold clsB; rw [if_pos (by omega)]))
        go_wp2
        go_roundg g
        case measure => omega
        case rel => exact ⟨i + 1, by omega, by first | rfl | simp, by rw [← HS.out]; rfl⟩
      · have b1 : (65 : Int) ≤ (i : Int) := by omega
        have b2 : (i : Int) ≤ 90 := by omega
        have HS := Lib.hid (tbl_set i hi 3 (by unfold clsB; rw [if_pos (by omega)]))
        go_wp2
        go_roundg g
        case measure => omega
        case rel => exact ⟨i + 1, by omega, by first | rfl | simp, by rw [← HS.out]; rfl⟩
      · have b1 : (48 : Int) ≤ (i : Int) := by omega
        have b2 : (i : Int) ≤ 57 := by omega
        have HS := Lib.hid (tbl_set i hi 4 (by unfold clsB; rw [if_neg (by omega), if_pos (by omega)]))
        go_wp2
        go_roundg g
        case measure => omega
        case rel => exact ⟨i + 1, by omega, by first | rfl | simp, by rw [← HS.out]; rfl⟩
      · by_cases hb : i = 32 ∨ i = 9 ∨ i = 10
        · rcases hb with rfl | rfl | rfl
          · have HS := Lib.hid (tbl_set 32 hi 1 (by decide))
            go_wp2_with (go_at_call 36; refine (Tryd.strings_IndexByte _ _ _).mono ?_; rintro e w' ⟨rfl, rfl⟩)
            go_roundg g
            case measure => omega
            case rel => exact ⟨33, by omega, by first | rfl | simp, by rw [← HS.out]; rfl⟩
          · have HS := Lib.hid (tbl_set 9 hi 1 (by decide))
            go_wp2_with (go_at_call 36; refine (Tryd.strings_IndexByte _ _ _).mono ?_; rintro e w' ⟨rfl, rfl⟩)
            go_roundg g
            case measure => omega
            case rel => exact ⟨10, by omega, by first | rfl | simp, by rw [← HS.out]; rfl⟩
          · have HS := Lib.hid (tbl_set 10 hi 1 (by decide))
            go_wp2_with (go_at_call 36; refine (Tryd.strings_IndexByte _ _ _).mono ?_; rintro e w' ⟨rfl, rfl⟩)
            go_roundg g
            case measure => omega
            case rel => exact ⟨11, by omega, by first | rfl | simp, by rw [← HS.out]; rfl⟩
        · by_cases hy : i = 59 ∨ i = 44 ∨ i = 46 ∨ i = 58 ∨ i = 40 ∨ i = 41 ∨ i = 91 ∨ i = 93 ∨ i = 123 ∨ i = 125 ∨ i = 61
          · rcases hy with rfl | rfl | rfl | rfl | rfl | rfl | rfl | rfl | rfl | rfl | rfl
            · have HS := Lib.hid (tbl_set 59 hi 6 (by decide))
              go_wp2_with (go_at_call 36; refine (Tryd.strings_IndexByte _ _ _).mono ?_; rintro e w' ⟨rfl, rfl⟩)
              go_roundg g
              case measure => omega
              case rel => exact ⟨60, by omega, by first | rfl | simp, by rw [← HS.out]; rfl⟩
            · have HS := Lib.hid (tbl_set 44 hi 6 (by decide))
              go_wp2_with (go_at_call 36; refine (Tryd.strings_IndexByte _ _ _).mono ?_; rintro e w' ⟨rfl, rfl⟩)
              go_roundg g
              case measure => omega
              case rel => exact ⟨45, by omega, by first | rfl | simp, by rw [← HS.out]; rfl⟩
            · have HS := Lib.hid (tbl_set 46 hi 6 (by decide))
              go_wp2_with (go_at_call 36; refine (Tryd.strings_IndexByte _ _ _).mono ?_; rintro e w' ⟨rfl, rfl⟩)
              go_roundg g
              case measure => omega
              case rel => exact ⟨47, by omega, by first | rfl | simp, by rw [← HS.out]; rfl⟩
            · have HS := Lib.hid (tbl_set 58 hi 6 (by decide))
              go_wp2_with (go_at_call 36; refine (Tryd.strings_IndexByte _ _ _).mono ?_; rintro e w' ⟨rfl, rfl⟩)
              go_roundg g
              case measure => omega
              case rel => exact ⟨59, by omega, by first | rfl | simp, by rw [← HS.out]; rfl⟩
            · have HS := Lib.hid (tbl_set 40 hi 6 (by decide))
              go_wp2_with (go_at_call 36; refine (Tryd.strings_IndexByte _ _ _).mono ?_; rintro e w' ⟨rfl, rfl⟩)
              go_roundg g
              case measure => omega
              case rel => exact ⟨41, by omega, by first | rfl | simp, by rw [← HS.out]; rfl⟩
            · have HS := Lib.hid (tbl_set 41 hi 6 (by decide))
              go_wp2_with (go_at_call 36; refine (Tryd.strings_IndexByte _ _ _).mono ?_; rintro e w' ⟨rfl, rfl⟩)
              go_roundg g
              case measure => omega
              case rel => exact ⟨42, by omega, by first | rfl | simp, by rw [← HS.out]; rfl⟩
            · have HS := Lib.hid (tbl_set 91 hi 6 (by decide))
              go_wp2_with (go_at_call 36; refine (Tryd.strings_IndexByte _ _ _).mono ?_; rintro e w' ⟨rfl, rfl⟩)
              go_roundg g
              case measure => omega
              case rel => exact ⟨92, by omega, by first | rfl | simp, by rw [← HS.out]; rfl⟩
            · have HS := Lib.hid (tbl_set 93 hi 6 (by decide))
              go_wp2_with (go_at_call 36; refine (Tryd.strings_IndexByte _ _ _).mono ?_; rintro e w' ⟨rfl, rfl⟩)
              go_roundg g
              case measure => omega
              case rel => exact ⟨94, by omega, by first | rfl | simp, by rw [← HS.out]; rfl⟩
            · have HS := Lib.hid (tbl_set 123 hi 6 (by decide))
              go_wp2_with (go_at_call 36; refine (Tryd.strings_IndexByte _ _ _).mono ?_; rintro e w' ⟨rfl, rfl⟩)
              go_roundg g
              case measure => omega
              case rel => exact ⟨124, by omega, by first | rfl | simp, by rw [← HS.out]; rfl⟩
            · have HS := Lib.hid (tbl_set 125 hi 6 (by decide))
              go_wp2_with (go_at_call 36; refine (Tryd.strings_IndexByte _ _ _).mono ?_; rintro e w' ⟨rfl, rfl⟩)
              go_roundg g
              case measure => omega
              case rel => exact ⟨126, by omega, by first | rfl | simp, by rw [← HS.out]; rfl⟩
            · have HS := Lib.hid (tbl_set 61 hi 6 (by decide))
              go_wp2_with (go_at_call 36; refine (Tryd.strings_IndexByte _ _ _).mono ?_; rintro e w' ⟨rfl, rfl⟩)
              go_roundg g
              case measure => omega
              case rel => exact ⟨62, by omega, by first | rfl | simp, by rw [← HS.out]; rfl⟩
          · by_cases hp : i = 60 ∨ i = 62
            · rcases hp with rfl | rfl
              · have HS := Lib.hid (tbl_set 60 hi 7 (by decide))
                go_wp2_with (go_at_call 36; refine (Tryd.strings_IndexByte _ _ _).mono ?_; rintro e w' ⟨rfl, rfl⟩)
                go_roundg g
                case measure => omega
                case rel => exact ⟨61, by omega, by first | rfl | simp, by rw [← HS.out]; rfl⟩
              · have HS := Lib.hid (tbl_set 62 hi 7 (by decide))
                go_wp2_with (go_at_call 36; refine (Tryd.strings_IndexByte _ _ _).mono ?_; rintro e w' ⟨rfl, rfl⟩)
                go_roundg g
                case measure => omega
                case rel => exact ⟨63, by omega, by first | rfl | simp, by rw [← HS.out]; rfl⟩
            · have HS := Lib.hid (tbl_same i (by unfold clsB; rw [if_neg (by omega), if_neg (by omega), if_neg hb, if_neg hy, if_neg hp]))
              have n1 : Lib.indexByte blanks.data.toList (i : Int).toNat.toUInt8 = -1 := ib_ne _ _ (by simp only [Int.toNat_natCast, blanks]; exact nb_blank i hi hb)
              have n2 : Lib.indexByte symbols.data.toList (i : Int).toNat.toUInt8 = -1 := ib_ne _ _ (by simp only [Int.toNat_natCast, symbols]; exact nb_sym i hi hy)
              have N1 := Lib.hid n1
              have N2 := Lib.hid n2
              clear n1 n2
              have e1 : ((i : Int) == 60) = false := beq_eq_false_iff_ne.2 (by omega)
              have e2 : ((i : Int) == 62) = false := beq_eq_false_iff_ne.2 (by omega)
              rcases hr with h | ⟨h1, h2⟩ | ⟨h1, h2⟩ | h
              · have f0 : (i : Int) < 48 := by omega
                go_wp2_with fail
                refine (ib_no blanks _ _ N1.out).mono ?_
                rintro e w' ⟨rfl, rfl⟩
                go_wp2_with fail
                refine (ib_no symbols _ _ N2.out).mono ?_
                rintro e w' ⟨rfl, rfl⟩
                go_wp2
                go_roundg g
                case measure => omega
                case rel => exact ⟨i + 1, by omega, by first | rfl | simp, by rw [← HS.out]⟩
              · have f0 : 57 < (i : Int) := by omega
                have f1 : (i : Int) < 65 := by omega
                go_wp2_with fail
                refine (ib_no blanks _ _ N1.out).mono ?_
                rintro e w' ⟨rfl, rfl⟩
                go_wp2_with fail
                refine (ib_no symbols _ _ N2.out).mono ?_
                rintro e w' ⟨rfl, rfl⟩
                go_wp2
                go_roundg g
                case measure => omega
                case rel => exact ⟨i + 1, by omega, by first | rfl | simp, by rw [← HS.out]⟩
              · have f0 : 90 < (i : Int) := by omega
                have f1 : (i : Int) < 97 := by omega
                go_wp2_with fail
                refine (ib_no blanks _ _ N1.out).mono ?_
                rintro e w' ⟨rfl, rfl⟩
                go_wp2_with fail
                refine (ib_no symbols _ _ N2.out).mono ?_
                rintro e w' ⟨rfl, rfl⟩
                go_wp2
                go_roundg g
                case measure => omega
                case rel => exact ⟨i + 1, by omega, by first | rfl | simp, by rw [← HS.out]⟩
              · have f0 : 122 < (i : Int) := by omega
                go_wp2_with fail
                refine (ib_no blanks _ _ N1.out).mono ?_
                rintro e w' ⟨rfl, rfl⟩
                go_wp2_with fail
                refine (ib_no symbols _ _ N2.out).mono ?_
                rintro e w' ⟨rfl, rfl⟩
                go_wp2
                go_roundg g
                case measure => omega
                case rel => exact ⟨i + 1, by omega, by first | rfl | simp, by rw [← HS.out]⟩
end Go.Proofs.YtbmmedoopjjbkaaDoor.Lex
