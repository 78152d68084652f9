/- The reference's register: its memory, and what its functions answer. -/
import Derived.Test.YtbmmedoopjjbkaaDoorFinPure2
import Derived.Deep.QuietTactic
import Derived.BigQuiet
import Derived.Deep.RegionWith
import Derived.RegionTactic
import Derived.BigRegion
namespace Go.Proofs.YtbmmedoopjjbkaaDoor.Fin
open Go.RowKit Go.Proofs.YtbmmedoopjjbkaaDoor.H Go.Proofs.YtbmmedoopjjbkaaDoorW.PrintWords Go.Proofs.YtbmmedoopjjbkaaDoorW.PrintLast Go.Proofs.YtbmmedoopjjbkaaDoorW.PrintMore
set_option linter.unusedVariables false
set_option linter.unusedSimpArgs false
attribute [local go_sem] Oper.semAt_some

/-! ### the place of what stands -/
def hitB (m q : ByteArray) (v : S32) : Bool := decide (v.f1 = m ∧ v.f2 = q)
def ixOf (L : List S32) (m q : ByteArray) : Int := match L.reverse.findIdx? (hitB m q) with | none => -1 | some k => (L.length : Int) - 1 - k
theorem ix_snoc (L : List S32) (v : S32) (m q : ByteArray) : ixOf (L ++ [v]) m q = if v.f1 = m ∧ v.f2 = q then (L.length : Int) else ixOf L m q := by
  unfold ixOf
  rw [List.reverse_append]
  show (match ((v :: L.reverse).findIdx? (hitB m q)) with | none => -1 | some k => ((L ++ [v]).length : Int) - 1 - k) = _
  rw [List.findIdx?_cons]
  by_cases h : v.f1 = m ∧ v.f2 = q
  · rw [if_pos h]; simp [hitB, h]
  · rw [if_neg h]
    have hv : hitB m q v = false := by simp [hitB, h]
    rw [hv]
    rcases hx : L.reverse.findIdx? (hitB m q) with _ | k
    · rfl
    · show ((L ++ [v]).length : Int) - 1 - ((k + 1 : Nat) : Int) = (L.length : Int) - 1 - (k : Int)
      rw [List.length_append]
      simp only [List.length_cons, List.length_nil]
      omega
def Ix (L : List S32) (m q : ByteArray) (ix : Int) : Prop := (cur L m q = none ∧ ix = -1) ∨ ∃ (j : Nat) (h : j < L.length), ix = (j : Int) ∧ cur L m q = some L[j]
theorem ix_take (L : List S32) (m q : ByteArray) : ∀ i, i ≤ L.length → Ix (L.take i) m q (ixOf (L.take i) m q)
  | 0, _ => .inl ⟨rfl, rfl⟩
  | i + 1, hi => by
    have h := ix_take L m q i (by omega)
    rw [List.take_succ_eq_append_getElem (by omega), ix_snoc]
    unfold Ix
    rw [cur_snoc]
    by_cases e : (L[i]'(by omega)).f1 = m ∧ (L[i]'(by omega)).f2 = q
    · rw [if_pos e, if_pos e]
      refine .inr ⟨i, by rw [List.length_append, List.length_take]; simp; omega, by rw [List.length_take]; congr 1; omega, ?_⟩
      rw [List.getElem_append_right (by rw [List.length_take]; omega)]
      simp
    · rw [if_neg e, if_neg e]
      rcases h with h | ⟨j, hj, h1, h2⟩
      · exact .inl h
      · refine .inr ⟨j, by rw [List.length_append]; omega, h1, ?_⟩
        rw [h2, List.getElem_append_left hj]
theorem ix_all (L : List S32) (m q : ByteArray) : Ix L m q (ixOf L m q) := by
  have := ix_take L m q L.length (Nat.le_refl _)
  rwa [List.take_length] at this
theorem ix_step {L : List S32} {i : Nat} (h : i < L.length) (m q : ByteArray) : ixOf (L.take (i + 1)) m q = if (rd_T32 L (i : Int)).f1 = m ∧ (rd_T32 L (i : Int)).f2 = q then (i : Int) else ixOf (L.take i) m q := by
  rw [List.take_succ_eq_append_getElem h, ix_snoc, rd_get L i h, List.length_take]
  split
  · congr 1; omega
  · rfl
theorem ix_hit {L : List S32} {i : Nat} (h : i < L.length) {m q : ByteArray} (h1 : ((rd_T32 L (i : Int)).f1.toList == m.toList) = true) (h2 : ((rd_T32 L (i : Int)).f2.toList == q.toList) = true) : ixOf (L.take (i + 1)) m q = (i : Int) := by
  rw [ix_step h, if_pos ⟨toList_inj (beq_iff_eq.1 h1), toList_inj (beq_iff_eq.1 h2)⟩]
theorem ix_miss1 {L : List S32} {i : Nat} (h : i < L.length) {m q : ByteArray} (h1 : ((rd_T32 L (i : Int)).f1.toList == m.toList) = false) : ixOf (L.take (i + 1)) m q = ixOf (L.take i) m q := by
  rw [ix_step h, if_neg (fun e => beq_eq_false_iff_ne.1 h1 (congrArg ByteArray.toList e.1))]
theorem ix_miss2 {L : List S32} {i : Nat} (h : i < L.length) {m q : ByteArray} (h1 : ((rd_T32 L (i : Int)).f2.toList == q.toList) = false) : ixOf (L.take (i + 1)) m q = ixOf (L.take i) m q := by
  rw [ix_step h, if_neg (fun e => beq_eq_false_iff_ne.1 h1 (congrArg ByteArray.toList e.2))]

/-! ### memory -/
structure RefAt (w : World) (G : Nat → Prop) (b : Nat) (L : List S32) (A : Option Addr) (c : Nat) : Prop where
  c0 : w.cell? ⟨b, 0, none⟩ = some (.slice A L.length c)
  f0 : w.frozen? ⟨b, 0, none⟩ = false
  lb : G b
  lt : ∀ k, G k → k < w.heap.size
  own : w.ownsRow 0 32 7 (.slice A L.length c) L.length (cellsL L)
  ob : ∀ g, (Value.slice A L.length c).ownBlock = some g → g ≠ b ∧ G g
  good : Good L
def RefF (w : World) (G : Nat → Prop) (b : Nat) (L : List S32) : Prop := ∃ A c, RefAt w G b L A c
theorem RefAt.kept {w w' : World} {G : Nat → Prop} {b : Nat} {L : List S32} {A : Option Addr} {c : Nat} (h : RefAt w G b L A c) (hk : ∀ k, G k → w'.heap[k]? = w.heap[k]?) (hs : w.heap.size ≤ w'.heap.size) : RefAt w' G b L A c where
  c0 := (World.cell?_of_block (a := ⟨b, 0, none⟩) (hk b h.lb)).trans h.c0
  f0 := (World.frozen?_of_block (a := ⟨b, 0, none⟩) (hk b h.lb)).trans h.f0
  lb := h.lb
  lt := fun k hk => Nat.lt_of_lt_of_le (h.lt k hk) hs
  own := own_move h.own (fun k e => hk k (h.ob k e).2)
  ob := h.ob
  good := h.good
theorem RefAt.below {w w' : World} {G : Nat → Prop} {b : Nat} {L : List S32} {A : Option Addr} {c : Nat} (h : RefAt w G b L A c) (hb : Below w.heap.size w w') : RefAt w' G b L A c := h.kept (fun k hk => hb.block k (h.lt k hk)) hb.size
theorem RefF.below {w w' : World} {G : Nat → Prop} {b : Nat} {L : List S32} (h : RefF w G b L) (hb : Below w.heap.size w w') : RefF w' G b L := by
  obtain ⟨A, c, h⟩ := h
  exact ⟨A, c, h.below hb⟩
theorem RefF.kept {w w' : World} {G : Nat → Prop} {b : Nat} {L : List S32} (h : RefF w G b L) (hk : ∀ k, G k → w'.heap[k]? = w.heap[k]?) (hs : w.heap.size ≤ w'.heap.size) : RefF w' G b L := by
  obtain ⟨A, c, h⟩ := h
  exact ⟨A, c, h.kept hk hs⟩
theorem RefAt.row {w : World} {G : Nat → Prop} {b : Nat} {L : List S32} {A : Option Addr} {c : Nat} (h : RefAt w G b L A c) (hn : L.length ≤ 1000000) : Kd.C k32 w A L.length L := C_of_cells h.own rfl hn

set_option maxRecDepth 100000 in
set_option maxHeartbeats 1000000 in
theorem ref_at (w : World) (G : Nat → Prop) (b : Nat) (L : List S32) (A : Option Addr) (c : Nat) (m q : ByteArray) (h : RefAt w G b L A c) (hn : L.length ≤ 1000000) :
    Calls Tryd.prog 26 #[.pointer (some ⟨b, 0, none⟩), .string m, .string q] w fun e w' => e = .returned (.int .i64 (ixOf L m q)) ∧ w' = w := by
  have c0 := h.c0
  have HC := Aside0.mk (h.row hn)
  have HN := Aside0.mk hn
  clear h hn
  go_enter Tryd.func26, Tryd.ntmps26
  go_wp2
  go_loopg [7, 8] (L.length + 1) (fun g v7 v8 W => W = w ∧ ∃ i : Nat, v7 = .int .i64 (ixOf (L.take i) m q) ∧ v8 = .int .i64 i ∧ i ≤ L.length ∧ Aside0 (L.length - i < g))
  case atStart => exact ⟨rfl, 0, rfl, rfl, Nat.zero_le _, ⟨by omega⟩⟩
  case round =>
    obtain ⟨rfl, i, rfl, rfl, hi1, HG⟩ := hrel
    obtain ⟨g, rfl⟩ : ∃ g, gk = g + 1 := ⟨gk - 1, by have := HG.out; omega⟩
    by_cases hlt : i < L.length
    · have e2 : decide ((i : Int) < (L.length : Int)) = true := decide_eq_true (by omega)
      have e3 : decide (i < L.length) = true := decide_eq_true (by omega)
      have p0 : (0 ≤ (i : Int)) = True := eq_true (by omega)
      have p2 : ((i : Int) < (L.length : Int)) = True := eq_true (by omega)
      have hw : wrap64 ((i : Int) + 1) = (i : Int) + 1 := by unfold wrap64; have := HN.out; omega
      have HLT := Aside0.mk hlt
      obtain ⟨ad0, rfl, x0, x1, x2, x3, x4, x5, x6⟩ := at_T32 HC.out (i : Int) (Int.natCast_nonneg i) (by have := HLT.out; omega)
      simp only [Int.toNat_natCast] at x0 x1 x2 x3 x4 x5 x6
      clear hlt
      rcases q1 : ((rd_T32 L (i : Int)).f1.toList == m.toList) with _ | _
      · go_wp2
        go_roundg g
        case measure => exact Nat.lt_succ_self g
        case rel => exact ⟨by first | rfl | simp, i + 1, by rw [ix_miss1 HLT.out q1], by first | rfl | go_num | (simp; done), by have := HLT.out; omega, ⟨by have := HG.out; have := HLT.out; omega⟩⟩
      · rcases q2 : ((rd_T32 L (i : Int)).f2.toList == q.toList) with _ | _
        · go_wp2
          go_roundg g
          case measure => exact Nat.lt_succ_self g
          case rel => exact ⟨by first | rfl | simp, i + 1, by rw [ix_miss2 HLT.out q2], by first | rfl | go_num | (simp; done), by have := HLT.out; omega, ⟨by have := HG.out; have := HLT.out; omega⟩⟩
        · go_wp2
          go_roundg g
          case measure => exact Nat.lt_succ_self g
          case rel => exact ⟨by first | rfl | simp, i + 1, by rw [ix_hit HLT.out q1 q2], by first | rfl | go_num | (simp; done), by have := HLT.out; omega, ⟨by have := HG.out; have := HLT.out; omega⟩⟩
    · have e2 : decide ((i : Int) < (L.length : Int)) = false := decide_eq_false (by omega)
      have e3 : decide (i < L.length) = false := decide_eq_false (by omega)
      have HE := Aside0.mk (show i = L.length by omega)
      clear hlt
      go_wp2
      go_ret
      exact ⟨by rw [HE.out, List.take_length]; rfl, rfl⟩
set_option maxRecDepth 100000 in
set_option maxHeartbeats 1000000 in
theorem ref_list (w : World) (G : Nat → Prop) (b : Nat) (L : List S32) (A : Option Addr) (c : Nat) (h : RefAt w G b L A c) :
    Calls Tryd.prog 21 #[.pointer (some ⟨b, 0, none⟩)] w fun e w' => e = .returned (.slice A L.length c) ∧ w' = w := by
  have c0 := h.c0
  clear h
  go_enter Tryd.func21, Tryd.ntmps21
  go_wp2
  go_ret
  exact ⟨rfl, rfl⟩
set_option maxRecDepth 100000 in
set_option maxHeartbeats 1000000 in
theorem ref_value (w : World) (G : Nat → Prop) (b : Nat) (L : List S32) (A : Option Addr) (c : Nat) (m q : ByteArray) (h : RefAt w G b L A c) (hn : L.length ≤ 1000000) :
    Calls Tryd.prog 18 #[.pointer (some ⟨b, 0, none⟩), .string m, .string q] w fun e w' => e = .returned (.tuple #[.int .i64 (val L m q).1, .bool (val L m q).2]) ∧ w' = w := by
  have c0 := h.c0
  have HC := Aside0.mk (h.row hn)
  have hs := ref_at w G b L A c m q h hn
  rcases ix_all L m q with ⟨hc, hx⟩ | ⟨j, hj, hx, hc⟩
  · rw [hx] at hs
    have HS := Aside0.mk hs
    have hv : val L m q = (0, false) := by unfold val; rw [hc]
    rw [hv]
    clear h hs hx hc hv
    go_enter Tryd.func18, Tryd.ntmps18
    go_wp2_with (go_at_call 26; refine HS.out.mono ?_; rintro e w2 ⟨rfl, rfl⟩)
    go_ret2
    exact ⟨rfl, rfl⟩
  · rw [hx] at hs
    have HS := Aside0.mk hs
    have hv : val L m q = ((rd_T32 L (j : Int)).f3, true) := by unfold val; rw [hc, rd_get L j hj]
    rw [hv]
    have p0 : (0 ≤ (j : Int)) = True := eq_true (by omega)
    have p2 : ((j : Int) < (L.length : Int)) = True := eq_true (by omega)
    have e6 : decide ((j : Int) < 0) = false := decide_eq_false (by omega)
    have p5 : ((j : Int) < 0) = False := eq_false (by omega)
    obtain ⟨ad0, rfl, x0, x1, x2, x3, x4, x5, x6⟩ := at_T32 HC.out (j : Int) (Int.natCast_nonneg j) (by omega)
    simp only [Int.toNat_natCast] at x0 x1 x2 x3 x4 x5 x6
    clear h hs hx hc hv
    go_enter Tryd.func18, Tryd.ntmps18
    go_wp2_with (go_at_call 26; refine HS.out.mono ?_; rintro e w2 ⟨rfl, rfl⟩)
    go_ret2
    exact ⟨rfl, rfl⟩
set_option maxRecDepth 100000 in
set_option maxHeartbeats 1000000 in
theorem ref_new (w : World) : Calls Tryd.prog 12 #[] w fun e w' => ∃ b, e = .returned (.pointer (some ⟨b, 0, none⟩)) ∧ RefF w' (fun k => k = b) b [] ∧ Below w.heap.size w w' ∧ w.heap.size ≤ b := by
  go_enter Tryd.func12, Tryd.ntmps12
  go_wp2
  go_ret
  refine ⟨w.heap.size, by simp, ⟨none, 0, ?_⟩, below_alloc (Below.refl _ _) _, Nat.le_refl _⟩
  have hb := blk_new w (.cells #[.slice none 0 0] 48 (0, 0))
  exact {
    c0 := (blk_cell hb 0).trans rfl
    f0 := blk_frozen hb 0
    lb := rfl
    lt := fun k hk => by subst hk; simp
    own := World.ownsRow_nil _ _ _ _
    ob := fun g hg => by simp [Value.ownBlock] at hg
    good := good_nil }
end Go.Proofs.YtbmmedoopjjbkaaDoor.Fin
