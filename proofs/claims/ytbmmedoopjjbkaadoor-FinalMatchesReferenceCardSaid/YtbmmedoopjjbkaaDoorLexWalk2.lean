/- Contracts of the look-up of a byte's class, and of the maker of the lexer's iterator. -/
import Derived.Test.YtbmmedoopjjbkaaDoorLexWalk1
import Derived.Laws.EntriesVeiled
namespace Go.Proofs.YtbmmedoopjjbkaaDoor.Lex
open Go.RowKit Go.Shelf
set_option linter.unusedVariables false

/-- The class that the look-up gives at a place. -/
def clsAt (s : ByteArray) (i : Nat) : Nat := if h : i < s.size then cls s[i] else 0

set_option maxRecDepth 100000 in
set_option maxHeartbeats 1000000 in
theorem at_in (s : ByteArray) (hs : s.size ≤ 140737488351232) (B C i m : Nat) (w : World) (hB : w.cell? ⟨B, 0, none⟩ = some (.string s)) (h : i < s.size) (hm : s[i].toNat = m) (hc : w.cell? ⟨C, m, none⟩ = some (.int .u8 (clsN m : Int))) :
    Calls Tryd.prog 33 #[.int .i64 i, .pointer (some ⟨B, 0, none⟩), .pointer (some ⟨C, 0, none⟩)] w fun e w' => e = .returned (.int .u8 (clsN m : Int)) ∧ w = w' := by
  have hlt : (s[i].toNat : Int) < 256 := by have := s[i].toNat_lt; omega
  have hi : (i : Int) < (s.size : Int) := by omega
  rw [hm] at hlt
  go_enter Tryd.func33, Tryd.ntmps33
  go_wp2
  go_ret
  exact ⟨rfl, rfl⟩
set_option maxRecDepth 100000 in
set_option maxHeartbeats 1000000 in
theorem at_out (s : ByteArray) (hs : s.size ≤ 140737488351232) (B C i : Nat) (w : World) (hB : w.cell? ⟨B, 0, none⟩ = some (.string s)) (hi : (s.size : Int) ≤ (i : Int)) :
    Calls Tryd.prog 33 #[.int .i64 i, .pointer (some ⟨B, 0, none⟩), .pointer (some ⟨C, 0, none⟩)] w fun e w' => e = .returned (.int .u8 0) ∧ w = w' := by
  go_enter Tryd.func33, Tryd.ntmps33
  go_wp2
  go_ret
  exact ⟨rfl, rfl⟩
theorem at_calls (s : ByteArray) (hs : s.size ≤ 140737488351232) (B C i : Nat) (w : World) (hB : w.cell? ⟨B, 0, none⟩ = some (.string s)) (hC : ∀ j, j < 256 → w.cell? ⟨C, j, none⟩ = some (.int .u8 (clsN j : Int))) :
    Calls Tryd.prog 33 #[.int .i64 i, .pointer (some ⟨B, 0, none⟩), .pointer (some ⟨C, 0, none⟩)] w fun e w' => e = .returned (.int .u8 (clsAt s i : Int)) ∧ w = w' := by
  unfold clsAt
  by_cases h : i < s.size
  · rw [dif_pos h]
    exact at_in s hs B C i _ w hB h rfl (hC _ s[i].toNat_lt)
  · rw [dif_neg h]
    exact at_out s hs B C i w hB (by omega)

set_option maxRecDepth 100000 in
set_option maxHeartbeats 1000000 in
theorem tokens_calls (s : ByteArray) (w : World) :
    Calls Tryd.prog 31 #[.string s] w fun e w' => ∃ C, w.heap.size < C ∧ w'.heap.size = C + 2 ∧ e = .returned (.func (.func 34) #[] #[.pointer (some ⟨w.heap.size, 0, none⟩), .pointer (some ⟨C + 1, 0, none⟩)]) ∧
      w'.heap[w.heap.size]? = some (.cells #[.string s] 9 (0, 0)) ∧ w'.heap[C]? = some (.cells tblF 66 (0, 0)) ∧
      w'.heap[C + 1]? = some (.cells #[.func (.func 33) #[] #[.pointer (some ⟨w.heap.size, 0, none⟩), .pointer (some ⟨C, 0, none⟩)]] 68 (0, 0)) ∧ Below w.heap.size w w' := by
  have hi48 : (Tryd.prog.info? 66).map (·.size) = some 256 := by kernel_rfl
  have hsz := tblF_size
  have hsc := fun w1 => run_storeCells_new (P := Tryd.prog) w1 66 Tryd.zeroCells66 tblF (by rw [tblF_size]; exact hi48) (by rw [tbl_zero, tbl_size, tblF_size]) tblF_one
  go_enter Tryd.func31, Tryd.ntmps31
  go_wp2_with (go_at_call 32; refine (classes_calls _).mono ?_; rintro e w1 ⟨rfl, hb⟩)
  go_ret
  have hs := hb.size
  simp only [World.size_alloc] at hs
  have hb1 := (((hb.mono (B' := w.heap.size) (by simp)).alloc (by omega) (.cells tblF 66)).alloc (by simp; omega) (.cells #[.func (.func 33) #[] #[.pointer (some ⟨w.heap.size, 0, none⟩), .pointer (some ⟨w1.heap.size, 0, none⟩)]] 68))
  refine ⟨w1.heap.size, by omega, by simp, rfl, ?_, ?_, ?_, ((Below.refl _ w).alloc (Nat.le_refl _) _).trans hb1⟩
  · refine (Below.heap_alloc _ _ _ (by simp; omega)).trans ((Below.heap_alloc _ _ _ (by omega)).trans ((hb.block _ (by simp)).trans (heap_alloc_new w _)))
  · exact (Below.heap_alloc _ _ _ (by simp)).trans (heap_alloc_new w1 _)
  · have := heap_alloc_new (w1.alloc (.cells tblF 66)) (.cells #[.func (.func 33) #[] #[.pointer (some ⟨w.heap.size, 0, none⟩), .pointer (some ⟨w1.heap.size, 0, none⟩)]] 68)
    rwa [World.size_alloc] at this
end Go.Proofs.YtbmmedoopjjbkaaDoor.Lex
