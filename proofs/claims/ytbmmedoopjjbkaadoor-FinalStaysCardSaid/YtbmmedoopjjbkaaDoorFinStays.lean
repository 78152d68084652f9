/- FinalStays, walked: a final verdict stands whatever comes behind it. -/
import Derived.Test.YtbmmedoopjjbkaaDoorFinPure2
import Derived.Deep.QuietTactic
import Derived.BigQuiet
import Derived.Deep.RegionWith
import Derived.RegionTactic
import Derived.BigRegion
namespace Go.Proofs.YtbmmedoopjjbkaaDoor.Fin
open Go.RowKit Go.Proofs.YtbmmedoopjjbkaaDoor.H Go.Proofs.YtbmmedoopjjbkaaDoorW.PrintWords Go.Proofs.YtbmmedoopjjbkaaDoorW.PrintLast Go.Proofs.YtbmmedoopjjbkaaDoorW.PrintMore
set_option linter.unusedVariables false
set_option linter.unusedSimpArgs false
attribute [local go_sem] Oper.semAt_some

set_option maxRecDepth 100000 in
set_option maxHeartbeats 2000000 in
theorem FinalStays_calls (A0 : Option Addr) (c0 : Nat) (l0 : List S32) (A1 : Option Addr) (c1 : Nat) (l1 : List S32) (w : World) (hr0 : Kd.C k32 w A0 l0.length l0) (hc0 : l0.length ≤ c0) (hr1 : Kd.C k32 w A1 l1.length l1) (hc1 : l1.length ≤ c1) :
    Calls Tryd.prog 5 #[.slice A0 l0.length c0, .slice A1 l1.length c1] w fun e w' => e = .returned (.bool true) ∧ Below w.heap.size w w' := by
  obtain ⟨i0, hi, hz0, hz1, hz2⟩ := info_parts info32
  obtain ⟨r, h60, hfew⟩ := few_calls A0 c0 l0 40 w hr0 hc0
  obtain ⟨r1, h61, hfew1⟩ := few_calls A1 c1 l1 40 w hr1 hc1
  replace hfew1 : ∀ W : World, Kd.C k32 W A1 l1.length l1 → Calls Tryd.prog 10 #[.slice A1 l1.length c1, .int .i64 40] W fun e w' => e = .returned (.bool r1) ∧ Below W.heap.size W w' := hfew1
  have HR0 := Aside0.mk hr0
  have HR1 := Aside0.mk hr1
  have HB := Aside0.mk (Below.refl w.heap.size w)
  clear hr0 hc0 hr1 hc1
  cases r with
  | false =>
    clear h60 h61 hfew1
    go_enter Tryd.func5, Tryd.ntmps5
    go_wp2_with (first | ((with_reducible refine gate_dst (N := 12) rfl ?_); (try (refine gate_guard (by rfl) ?_; dsimp only)); refine goesL_ (some 12) rfl rfl Tryd.func9 (by kernel_rfl) rfl #[] rfl (by (try simp only [List.map_toArray, List.map_cons, List.map_nil]); first | done | rfl) ?_; refine (head_calls _).mono ?_; rintro e wh ⟨rfl, hb⟩; have HB1 := Aside0.mk (below_step HB.out hb); clear hb HB; have HB := HB1; clear HB1; refine ⟨_, rfl, ?_⟩) | ((with_reducible refine gate_dst (N := 14) rfl ?_); (try (refine gate_guard (by rfl) ?_; dsimp only)); refine goesL_ (some 14) rfl rfl Tryd.func10 (by kernel_rfl) rfl #[.slice A0 l0.length c0, .int .i64 40] rfl (by (try simp only [List.map_toArray, List.map_cons, List.map_nil]); first | done | rfl) ?_; refine (hfew _ (Kd.C_below HR0.out HB.out)).mono ?_; rintro e w2 ⟨rfl, hb⟩; have HB1 := Aside0.mk (below_step HB.out hb); clear hb HB; have HB := HB1; clear HB1; refine ⟨_, rfl, ?_⟩))
    go_ret
    exact ⟨rfl, HB.out⟩
  | true =>
   cases r1 with
   | false =>
    clear h60 h61
    go_enter Tryd.func5, Tryd.ntmps5
    go_wp2_with (first | ((with_reducible refine gate_dst (N := 12) rfl ?_); (try (refine gate_guard (by rfl) ?_; dsimp only)); refine goesL_ (some 12) rfl rfl Tryd.func9 (by kernel_rfl) rfl #[] rfl (by (try simp only [List.map_toArray, List.map_cons, List.map_nil]); first | done | rfl) ?_; refine (head_calls _).mono ?_; rintro e wh ⟨rfl, hb⟩; have HB1 := Aside0.mk (below_step HB.out hb); clear hb HB; have HB := HB1; clear HB1; refine ⟨_, rfl, ?_⟩) | ((with_reducible refine gate_dst (N := 14) rfl ?_); (try (refine gate_guard (by rfl) ?_; dsimp only)); refine goesL_ (some 14) rfl rfl Tryd.func10 (by kernel_rfl) rfl #[.slice A0 l0.length c0, .int .i64 40] rfl (by (try simp only [List.map_toArray, List.map_cons, List.map_nil]); first | done | rfl) ?_; refine (hfew _ (Kd.C_below HR0.out HB.out)).mono ?_; rintro e w2 ⟨rfl, hb⟩; have HB1 := Aside0.mk (below_step HB.out hb); clear hb HB; have HB := HB1; clear HB1; refine ⟨_, rfl, ?_⟩) | (go_at_call 10; with_reducible refine (hfew1 _ (Kd.C_below HR1.out HB.out)).mono ?_; rintro e w2 ⟨rfl, hb⟩; have HB1 := Aside0.mk (below_step HB.out hb); clear hb HB; have HB := HB1; clear HB1))
    go_ret
    exact ⟨rfl, HB.out⟩
   | true =>
    have HL60 := Aside0.mk (h60 rfl)
    have HL61 := Aside0.mk (h61 rfl)
    clear h60 h61
    obtain ⟨L, hL⟩ : ∃ L, decL l0 = L := ⟨_, rfl⟩
    have HLd := Aside0.mk hL
    have HLn : Aside0 (L.length ≤ 60) := ⟨by have := decL_len l0; have := HL60.out; rw [← hL]; omega⟩
    have HP : Aside0 (∀ v ∈ L, ∃ n, val (l1.foldl step L) v.f1 v.f2 = (n, true) ∧ (v.f5 = true → n = v.f3 ∧ st (l1.foldl step L) v.f0 = true)) := ⟨fun v hv => stays_pure (hL ▸ good_dec l0) (hL ▸ fin_fold l0 [] fin_nil) l1 hv⟩
    have HGD : Aside0 (Good L) := ⟨hL ▸ good_dec l0⟩
    clear hL
    go_enter Tryd.func5, Tryd.ntmps5
    go_wp2_with (first | ((with_reducible refine gate_dst (N := 12) rfl ?_); (try (refine gate_guard (by rfl) ?_; dsimp only)); refine goesL_ (some 12) rfl rfl Tryd.func9 (by kernel_rfl) rfl #[] rfl (by (try simp only [List.map_toArray, List.map_cons, List.map_nil]); first | done | rfl) ?_; refine (head_calls _).mono ?_; rintro e wh ⟨rfl, hb⟩; have HB1 := Aside0.mk (below_step HB.out hb); clear hb HB; have HB := HB1; clear HB1; refine ⟨_, rfl, ?_⟩) | ((with_reducible refine gate_dst (N := 14) rfl ?_); (try (refine gate_guard (by rfl) ?_; dsimp only)); refine goesL_ (some 14) rfl rfl Tryd.func10 (by kernel_rfl) rfl #[.slice A0 l0.length c0, .int .i64 40] rfl (by (try simp only [List.map_toArray, List.map_cons, List.map_nil]); first | done | rfl) ?_; refine (hfew _ (Kd.C_below HR0.out HB.out)).mono ?_; rintro e w2 ⟨rfl, hb⟩; have HB1 := Aside0.mk (below_step HB.out hb); clear hb HB; have HB := HB1; clear HB1; refine ⟨_, rfl, ?_⟩) | ((with_reducible refine gate_dst (N := 23) rfl ?_); (try (refine gate_guard (by rfl) ?_; dsimp only)); refine goesL_ (some 23) rfl rfl Tryd.func22 (by kernel_rfl) rfl #[.slice A0 l0.length c0] rfl (by (try simp only [List.map_toArray, List.map_cons, List.map_nil]); first | done | rfl) ?_; refine (decided_calls A0 c0 l0 _ (Kd.C_below HR0.out HB.out) (by have := HL60.out; omega)).mono ?_; rintro e wd ⟨b, rfl, hi2, hlb⟩; rw [HLd.out] at hi2; have HI := Aside0.mk hi2; have HBH := Aside0.mk HB.out.size; have hb := hi2.b0; clear hi2 hlb; have HB1 := Aside0.mk (below_step HB.out hb); clear hb HB; have HB := HB1; clear HB1; refine ⟨_, rfl, ?_⟩) | ((with_reducible refine gate_dst (N := 26) rfl ?_); (try (refine gate_guard (by rfl) ?_; dsimp only)); refine goesL_ (some 26) rfl rfl Tryd.func20 (by kernel_rfl) rfl #[.pointer (some ⟨b, 0, none⟩)] rfl (by (try simp only [List.map_toArray, List.map_cons, List.map_nil]); first | done | rfl) ?_; refine (inv_list (HI.out.below (below_alloc (Below.refl _ _) _)) (by have := HLn.out; omega)).mono ?_; rintro e wl ⟨vl, rfl, ho, hb⟩; have HO := Aside0.mk ho; have HZ := Aside0.mk (own_move (World.ownsRow_lit (base := w.heap.size) (e := 32) (size := 7) wd #[] 0 HB.out.size (by decide) rfl) (fun k hk => hb.block k (by have := (World.ownsRow_lit (base := w.heap.size) (e := 32) (size := 7) wd #[] 0 HB.out.size (by decide) rfl).lt k hk; exact this.2))); have HW := Aside0.mk (below_step (below_alloc (Below.refl _ wd) _) hb); clear ho hb; refine ⟨_, rfl, ?_⟩) | (go_at_call 10; with_reducible refine (hfew1 _ (Kd.C_below HR1.out HB.out)).mono ?_; rintro e w2 ⟨rfl, hb⟩; have HB1 := Aside0.mk (below_step HB.out hb); clear hb HB; have HB := HB1; clear HB1) | (at_builtin; refine wpList_append_rows _ rfl _ _ 22 rfl w.heap.size _ 32 i0 _ 7 88 Tryd.underlying22 hi hz0 hz1 hz2 rfl (by decide) (.slice (some ⟨wd.heap.size, 0, none⟩) 0 0) 0 [] rfl HZ.out _ L.length (cellsL L) rfl HO.out (cellsL_one L) (by have := HLn.out; unfold maxLen; omega) (by have := HLn.out; omega) (Nat.le_trans HB.out.size HW.out.size) ?_; intro va wa ho hg hat; obtain ⟨A2, c2, rfl⟩ := own_slice ho; have ho2 : wa.ownsRow w.heap.size 32 7 (.slice A2 L.length c2) L.length (cellsL L) := (by simpa using ho); have HA2 := Aside0.mk ho2; have HOB : Aside0 (∀ g, (Value.slice A2 L.length c2).ownBlock = some g → wd.heap.size ≤ g) := ⟨by intro g hgg; have hat2 : (Value.slice A2 L.length c2).ownBlock = some wd.heap.size ∨ (Value.slice A2 L.length c2).ownBlock = some wl.heap.size := (by simpa [Value.ownBlock] using hat); have := HW.out.size; rcases hat2 with h | h <;> rw [h] at hgg <;> have := Option.some.inj hgg <;> omega⟩; have HWa := Aside0.mk (HW.out.grown hg HW.out.size (fun k hk => by have : some wd.heap.size = some k := hk; have := Option.some.inj this; omega)); clear ho hg hat ho2; simp only [Nat.zero_add]))
    obtain ⟨F, hs, hFlt, hF1⟩ := HI.out.resnap HWa.out
    have HS := Aside0.mk hs
    have HFB : Aside0 (∀ k, F k → w.heap.size ≤ k) := ⟨fun k hk => by rcases hF1 k hk with h | h; exact h.elim; exact Nat.le_trans HBH.out h⟩
    have HFN : Aside0 (∀ g, (Value.slice A2 L.length c2).ownBlock = some g → ¬ F g) := ⟨fun g hg hf => by have := HOB.out g hg; have := hFlt g hf; omega⟩
    have HBa := Aside0.mk (below_step HB.out HWa.out)
    clear hs hFlt hF1 HI HW HZ HO HOB
    go_loopg [8] (l1.length + 1) (fun g v W => ∃ i : Nat, v = .int .i64 i ∧ i ≤ l1.length ∧ Aside0 (l1.length - i < g) ∧ Aside0 (Inv wa F W b ((l1.take i).foldl step L)))
    case atStart => exact ⟨0, rfl, Nat.zero_le _, ⟨by omega⟩, ⟨HS.out⟩⟩
    case round =>
      obtain ⟨i, rfl, hi1, HG, HI⟩ := hrel
      obtain ⟨g, rfl⟩ : ∃ g, gk = g + 1 := ⟨gk - 1, by have := HG.out; omega⟩
      by_cases hlt : i < l1.length
      · have e2 : decide ((i : Int) < (l1.length : Int)) = true := decide_eq_true (by omega)
        have e3 : decide (i < l1.length) = true := decide_eq_true (by omega)
        obtain ⟨ad0, rfl, x0, x1, x2, x3, x4, x5, x6⟩ := at_T32 (Kd.C_below HR1.out (keep_below HBa.out HFB.out HI.out.keep)) (i : Int) (by omega) (by omega)
        simp only [Int.toNat_natCast] at x0 x1 x2 x3 x4 x5 x6
        have p0 : (0 ≤ (i : Int)) = True := eq_true (by omega)
        have p2 : ((i : Int) < (l1.length : Int)) = True := eq_true (by omega)
        have hw : wrap64 ((i : Int) + 1) = (i : Int) + 1 := by unfold wrap64; have := HL61.out; omega
        have HLT := Aside0.mk hlt
        clear hlt
        go_wp2_with ((with_reducible refine gate_dst (N := 39) rfl ?_); (try (refine gate_guard (by rfl) ?_; dsimp only)); refine goesL_ (some 39) rfl rfl Tryd.func13 (by kernel_rfl) rfl #[.pointer (some ⟨b, 0, none⟩), .agg (vcells (rd_T32 l1 (i : Int)))] rfl (by (try simp only [List.map_toArray, List.map_cons, List.map_nil]); first | done | rfl) ?_; refine (inv_decide (rd_T32 l1 (i : Int)) HI.out (by have h1 := fold_len (l1.take i) L; rw [List.length_take] at h1; have := HL61.out; have := HLn.out; omega)).mono ?_; rintro e w2 ⟨rfl, hr⟩; have HI2 := Aside0.mk hr; clear hr; refine ⟨_, rfl, ?_⟩)
        go_roundg g
        case measure => exact Nat.lt_succ_self g
        case rel => exact ⟨i + 1, by first | rfl | go_num | (simp; done), by have := HLT.out; omega, ⟨by have := HG.out; have := HLT.out; omega⟩, ⟨by rw [fold_take l1 L i HLT.out]; exact HI2.out⟩⟩
      · have e2 : decide ((i : Int) < (l1.length : Int)) = false := decide_eq_false (by omega)
        have e3 : decide (i < l1.length) = false := decide_eq_false (by omega)
        obtain rfl : i = l1.length := by omega
        have HI9 : Aside0 (Inv wa F wr b (l1.foldl step L)) := ⟨by have h := HI.out; rw [List.take_length] at h; exact h⟩
        clear hlt HI HG HS
        go_wp2
        go_loopg [9] (L.length + 1) (fun g v W => ∃ i : Nat, v = .int .i64 i ∧ i ≤ L.length ∧ Aside0 (L.length - i < g) ∧ Aside0 (Inv wa F W b (l1.foldl step L)))
        case atStart => exact ⟨0, rfl, Nat.zero_le _, ⟨by omega⟩, ⟨HI9.out⟩⟩
        case round =>
          obtain ⟨i, rfl, hi1, HG, HI⟩ := hrel
          obtain ⟨g, rfl⟩ : ∃ g, gk = g + 1 := ⟨gk - 1, by have := HG.out; omega⟩
          by_cases hlt : i < L.length
          · have e2 : decide ((i : Int) < (L.length : Int)) = true := decide_eq_true (by omega)
            have e3 : decide (i < L.length) = true := decide_eq_true (by omega)
            have HC := Aside0.mk (C_of_cells (keep_row HA2.out HFN.out HI.out.keep) rfl (by have := HLn.out; omega))
            obtain ⟨ad0, rfl, x0, x1, x2, x3, x4, x5, x6⟩ := at_T32 HC.out (i : Int) (by omega) (by omega)
            simp only [Int.toNat_natCast] at x0 x1 x2 x3 x4 x5 x6
            have p0 : (0 ≤ (i : Int)) = True := eq_true (by omega)
            have p2 : ((i : Int) < (L.length : Int)) = True := eq_true (by omega)
            have hw : wrap64 ((i : Int) + 1) = (i : Int) + 1 := by unfold wrap64; have := HLn.out; omega
            have hmem : rd_T32 L (i : Int) ∈ L := by rw [rd_get L i hlt]; exact List.getElem_mem hlt
            obtain ⟨nv, hval, hst⟩ := HP.out _ hmem
            obtain ⟨t0, t1, t2⟩ := vd_parts (HGD.out.1 _ hmem)
            have hv : ∀ n : Nat, Calls Tryd.prog 17 #[.pointer (some ⟨b, 0, none⟩), .string (rd_T32 L (i : Int)).f1, .string (rd_T32 L (i : Int)).f2] (wr.drewN n) fun e w' => e = .returned (.tuple #[.int .i64 nv, .bool true]) ∧ w' = wr.drewN n := fun n => by
              have := inv_value (rd_T32 L (i : Int)).f1 (rd_T32 L (i : Int)).f2 (HI.out.below (pw_below_drewN (Below.refl _ _) n)) (small_max (tok_size t1)) (small_max (tok_size t2))
              rw [hval] at this
              exact this
            have HS0 := Aside0.mk (small_max (tok_size t0))
            have HLT := Aside0.mk hlt
            have HST := Aside0.mk hst
            clear hlt hmem hval t0 t1 t2 hst
            rcases h5 : (rd_T32 L (i : Int)).f5 with _ | _
            · rw [h5] at x5
              clear h5
              go_wp2
              go_quiet ((go_at_call 17; exact Calls.quiet_of_same (hv _)))
              clear hv
              go_wp2
              go_roundg g
              case measure => exact Nat.lt_succ_self g
              case rel => exact ⟨i + 1, by first | rfl | go_num | (simp; done), by have := HLT.out; omega, ⟨by have := HG.out; have := HLT.out; omega⟩, ⟨HI.out.below (by repeat (first | exact Below.refl _ _ | apply below_drew1 | apply pw_below_drewN))⟩⟩
            · rw [h5] at x5
              have hn2 := (HST.out h5).1
              have HST2 := Aside0.mk (HST.out h5).2
              have hq1 : (nv == (rd_T32 L (i : Int)).f3) = true := beq_iff_eq.2 hn2
              have hq2 : (nv != (rd_T32 L (i : Int)).f3) = false := bne_eq_false_iff_eq.2 hn2
              clear hn2 h5 HST
              go_wp2
              go_quiet ((go_at_call 17; exact Calls.quiet_of_same (hv _)))
              clear hv
              go_wp2_with (go_at_call 15; refine (inv_stands (rd_T32 L (i : Int)).f0 (HI.out.below (pw_below_drewN (Below.refl _ _) _)) HS0.out).mono ?_; rintro e w5 ⟨he, hb⟩; rw [HST2.out] at he; subst he; have HBB := Aside0.mk (below_step (pw_below_drewN (Below.refl _ _) _) hb); have HI2 := Aside0.mk (HI.out.below HBB.out); clear hb; clear x0 x1 x2 x3 x4 x5 x6; obtain ⟨ad1, hA1, x0, x1, x2, x3, x4, x5, x6⟩ := at_T32 (Kd.C_below HC.out HBB.out) (i : Int) (Int.natCast_nonneg i) (by have := HLT.out; omega); cases hA1; simp only [Int.toNat_natCast] at x0 x1 x2 x3 x4 x5 x6)
              go_roundg g
              case measure => exact Nat.lt_succ_self g
              case rel => exact ⟨i + 1, by first | rfl | go_num | (simp; done), by have := HLT.out; omega, ⟨by have := HG.out; have := HLT.out; omega⟩, ⟨HI2.out⟩⟩
          · have e2 : decide ((i : Int) < (L.length : Int)) = false := decide_eq_false (by omega)
            have e3 : decide (i < L.length) = false := decide_eq_false (by omega)
            clear hlt
            go_wp2
            go_ret
            exact ⟨rfl, keep_below HBa.out HFB.out HI.out.keep⟩
end Go.Proofs.YtbmmedoopjjbkaaDoor.Fin
