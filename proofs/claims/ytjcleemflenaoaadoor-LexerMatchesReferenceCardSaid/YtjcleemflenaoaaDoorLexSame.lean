/- The contract of the reference's Same: two lists of tokens are equal, the places moved by a number. -/
import Derived.Test.YtjcleemflenaoaaDoorLexIter
import Derived.Test.YtjcleemflenaoaaDoorH1
namespace Go.Proofs.YtjcleemflenaoaaDoor.H
open Go.RowKit Go.Shelf Go.Proofs.YtjcleemflenaoaaDoorW.PrintWords Go.Proofs.YtjcleemflenaoaaDoorW.PrintLast Go.Proofs.YtjcleemflenaoaaDoorW.PrintMore
set_option linter.unusedVariables false
attribute [local go_sem] Oper.semAt_some
attribute [local go_sem high] eqA30

def sameTok (a1 : Int) (x y : S30) : Bool := x.f0 == y.f0 && (x.f1.toList == y.f1.toList && (x.f2 == y.f2 && (wrap64 (x.f3 + a1) == y.f3)))
def same (l0 : List S30) (a1 : Int) (l2 : List S30) : Bool :=
  l0.length == l2.length && ((List.range l0.length).all fun i => sameTok a1 (rd_T30 l0 i) (rd_T30 l2 i))

set_option maxRecDepth 100000 in
set_option maxHeartbeats 1000000 in
theorem same_calls (A0 : Option Addr) (c0 : Nat) (l0 : List S30) (a1 : Int) (A2 : Option Addr) (c2 : Nat) (l2 : List S30) (w : World) (hr0 : Kd.C k30 w A0 l0.length l0) (hr2 : Kd.C k30 w A2 l2.length l2) (hl : l0.length ≤ 1000000000) :
    Calls Tryd.prog 14 #[.slice A0 l0.length c0, .int .i64 a1, .slice A2 l2.length c2] w fun e w' => e = .returned (.bool (same l0 a1 l2)) ∧ Below w.heap.size w w' := by
  by_cases he : l0.length = l2.length
  · rw [he] at hr0 hl ⊢
    have HE := Aside0.mk he
    clear he
    have e1 : ((l2.length : Int) != (l2.length : Int)) = false := bne_eq_false_iff_eq.2 rfl
    go_enter Tryd.func14, Tryd.ntmps14
    go_wp2
    go_loopg [7] (l2.length + 1) (fun g v W => ∃ i : Nat, v = .int .i64 i ∧ i ≤ l2.length ∧ Aside0 (l2.length - i < g) ∧ Aside0 (∀ j < i, sameTok a1 (rd_T30 l0 j) (rd_T30 l2 j) = true) ∧ Aside0 (Below w.heap.size w W))
    case atStart => exact ⟨0, rfl, Nat.zero_le _, ⟨by omega⟩, ⟨fun j h => absurd h (by omega)⟩, ⟨by repeat (first | exact Below.refl _ _ | apply below_drew1)⟩⟩
    case round =>
      obtain ⟨i, rfl, hi, HG, HH, HB⟩ := hrel
      obtain ⟨g, rfl⟩ : ∃ g, gk = g + 1 := ⟨gk - 1, by have := HG.out; omega⟩
      by_cases hlt : i < l2.length
      · have e2 : decide ((i : Int) < (l2.length : Int)) = true := decide_eq_true (by omega)
        obtain ⟨ad0, rfl, x0, x1, x2, x3⟩ := at_T30 hr0 (i : Int) (by omega) (by omega)
        obtain ⟨ad2, rfl, y0, y1, y2, y3⟩ := at_T30 hr2 (i : Int) (by omega) (by omega)
        simp only [Int.toNat_natCast] at x0 x1 x2 x3 y0 y1 y2 y3
        have e3 : decide (i < l2.length) = true := decide_eq_true (by omega)
        replace x0 := (HB.out.cell (World.block_lt_of_cell? w _ x0)).trans x0
        replace x1 := (HB.out.cell (World.block_lt_of_cell? w _ x1)).trans x1
        replace x2 := (HB.out.cell (World.block_lt_of_cell? w _ x2)).trans x2
        replace x3 := (HB.out.cell (World.block_lt_of_cell? w _ x3)).trans x3
        have p0 : (0 ≤ (i : Int)) = True := eq_true (by omega)
        have p2 : ((i : Int) < (l2.length : Int)) = True := eq_true (by omega)
        go_wp2_with (first | ((with_reducible refine gate_dst (N := 8) rfl ?_); refine box_event ?hg (N := 8) ?hd (cs := #[.int .i64 0, .string (⟨#[]⟩ : ByteArray), .int .i64 0, .int .i64 0]) (t := 30) ?hr ?_; (case hd => rfl); (case hg => rfl); (case hr => first | (go_simp; done) | (go_simp; rfl)); intro gb hg w9 hbox hb; have HB9 := Aside0.mk (below_step (by repeat (first | (with_reducible first | exact HB.out | apply below_alloc | apply pw_below_drewN | apply below_drew1) | exact HB.out)) hb); have BK := Aside0.mk hbox; have GW := Aside0.mk ((by rw [hg]; exact (below_size (by repeat (first | (with_reducible first | exact HB.out | apply below_alloc | apply pw_below_drewN | apply below_drew1) | exact HB.out))) : w.heap.size ≤ gb)); clear hb hbox hg; have z0 := (blk_cell BK.out 0).trans rfl; have z1 := (blk_cell BK.out 1).trans rfl; have z2 := (blk_cell BK.out 2).trans rfl; have z3 := (blk_cell BK.out 3).trans rfl; have f0 := blk_frozen BK.out 0; have f1 := blk_frozen BK.out 1; have f2 := blk_frozen BK.out 2; have f3 := blk_frozen BK.out 3))
        obtain ⟨V, hV⟩ : ∃ V, V = (((((w9.setCell ⟨gb, 0, none⟩ (.int .i64 (rd_T30 l0 (i : Int)).f0)).setCell ⟨gb, 1, none⟩ (.string (rd_T30 l0 (i : Int)).f1)).setCell ⟨gb, 2, none⟩ (.int .i64 (rd_T30 l0 (i : Int)).f2)).setCell ⟨gb, 3, none⟩ (.int .i64 (rd_T30 l0 (i : Int)).f3)).setCell ⟨gb, 3, none⟩ (.int .i64 (wrap64 ((rd_T30 l0 (i : Int)).f3 + a1)))) := ⟨_, rfl⟩
        rw [← hV]
        have v0 : V.cell? ⟨gb, 0, none⟩ = some (.int .i64 (rd_T30 l0 (i : Int)).f0) := by rw [hV]; go_simp
        have v1 : V.cell? ⟨gb, 1, none⟩ = some (.string (rd_T30 l0 (i : Int)).f1) := by rw [hV]; go_simp
        have v2 : V.cell? ⟨gb, 2, none⟩ = some (.int .i64 (rd_T30 l0 (i : Int)).f2) := by rw [hV]; go_simp
        have u3 : ((((w9.setCell ⟨gb, 0, none⟩ (.int .i64 (rd_T30 l0 (i : Int)).f0)).setCell ⟨gb, 1, none⟩ (.string (rd_T30 l0 (i : Int)).f1)).setCell ⟨gb, 2, none⟩ (.int .i64 (rd_T30 l0 (i : Int)).f2)).setCell ⟨gb, 3, none⟩ (.int .i64 (rd_T30 l0 (i : Int)).f3)).cell? ⟨gb, 3, none⟩ = some (.int .i64 (rd_T30 l0 (i : Int)).f3) := by go_simp
        have v3 : V.cell? ⟨gb, 3, none⟩ = some (.int .i64 (wrap64 ((rd_T30 l0 (i : Int)).f3 + a1))) := by rw [hV]; go_simp
        have HV : Aside0 (Below w.heap.size w V) := ⟨by rw [hV]; repeat (first | exact HB9.out | refine below_set ?_ GW.out)⟩
        have hne : ad2.block ≠ gb := Nat.ne_of_lt (Nat.lt_of_lt_of_le (by have := World.block_lt_of_cell? _ _ y0; rwa [add_block] at this) GW.out)
        clear u3 hV z0 z1 z2 z3 f0 f1 f2 f3 BK HB9 HB x0 x1 x2 x3
        replace y0 := (HV.out.cell (World.block_lt_of_cell? w _ y0)).trans y0
        replace y1 := (HV.out.cell (World.block_lt_of_cell? w _ y1)).trans y1
        replace y2 := (HV.out.cell (World.block_lt_of_cell? w _ y2)).trans y2
        replace y3 := (HV.out.cell (World.block_lt_of_cell? w _ y3)).trans y3
        clear e1 hne
        go_quiet (fail)
        have hn : (!((rd_T30 l0 (i : Int)).f0 == (rd_T30 l2 (i : Int)).f0) || (!((rd_T30 l0 (i : Int)).f1.toList == (rd_T30 l2 (i : Int)).f1.toList) || (!((rd_T30 l0 (i : Int)).f2 == (rd_T30 l2 (i : Int)).f2) || !(wrap64 ((rd_T30 l0 (i : Int)).f3 + a1) == (rd_T30 l2 (i : Int)).f3)))) = !(sameTok a1 (rd_T30 l0 (i : Int)) (rd_T30 l2 (i : Int))) := by
          unfold sameTok
          simp only [Bool.not_and]
        rcases hs : sameTok a1 (rd_T30 l0 (i : Int)) (rd_T30 l2 (i : Int)) with _ | _
        · rw [hn, hs, show (!false) = true from rfl]
          clear hn
          go_wp2
          go_ret
          refine ⟨?_, by repeat (first | exact HV.out | apply below_drew1 | apply pw_below_drewN)⟩
          have h : same l0 a1 l2 = false := by
            rcases h : same l0 a1 l2 with _ | _
            · rfl
            · unfold same at h
              rw [Bool.and_eq_true, List.all_eq_true] at h
              have := h.2 i (List.mem_range.2 (by rw [HE.out]; exact hlt))
              rw [hs] at this
              cases this
          rw [h]; rfl
        · rw [hn, hs, show (!true) = false from rfl]
          clear hn
          go_wp2
          go_roundg g
          case measure => exact Nat.lt_succ_self g
          case rel => exact ⟨i + 1, by first | rfl | go_num | (simp; done), by omega, ⟨by have := HG.out; omega⟩, ⟨fun j hj => by
            rcases Nat.lt_succ_iff_lt_or_eq.1 hj with h | rfl
            · exact HH.out j h
            · exact hs⟩, ⟨by repeat (first | exact HV.out | apply below_drew1 | apply pw_below_drewN)⟩⟩
      · have e2 : decide ((i : Int) < (l2.length : Int)) = false := decide_eq_false (by omega)
        have e3 : decide (i < l2.length) = false := decide_eq_false (by omega)
        go_wp2
        go_ret
        refine ⟨?_, by repeat (first | exact HB.out | apply below_drew1)⟩
        have h : same l0 a1 l2 = true := by
          unfold same
          rw [HE.out, beq_self_eq_true, Bool.true_and, List.all_eq_true]
          intro j hj
          exact HH.out j (by have := List.mem_range.1 hj; omega)
        rw [h]; rfl
  · have e1 : ((l0.length : Int) != (l2.length : Int)) = true := bne_iff_ne.2 (by omega)
    go_enter Tryd.func14, Tryd.ntmps14
    go_wp2
    go_ret
    exact ⟨by simp [same, he], by repeat (first | exact Below.refl _ _ | apply below_drew1)⟩
end Go.Proofs.YtjcleemflenaoaaDoor.H
