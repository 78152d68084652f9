/- FinalOne, walked: what stands is the last one for its question; each other one is reopened by the next. -/
import Derived.Test.YtbmmedoopjjbkaaDoorFinPure3
import Derived.Deep.QuietTactic
import Derived.BigQuiet
import Derived.Deep.RegionWith
import Derived.RegionTactic
import Derived.BigRegion
namespace Go.Proofs.YtbmmedoopjjbkaaDoor.Fin
open Go.RowKit Go.Proofs.YtbmmedoopjjbkaaDoor.H Go.Proofs.YtbmmedoopjjbkaaDoorW.PrintWords Go.Proofs.YtbmmedoopjjbkaaDoorW.PrintLast Go.Proofs.YtbmmedoopjjbkaaDoorW.PrintMore
set_option linter.unusedVariables false
set_option linter.unusedSimpArgs false
attribute [local go_sem] Oper.semAt_some

set_option maxRecDepth 100000 in
set_option maxHeartbeats 4000000 in
theorem FinalOne_calls (A0 : Option Addr) (c0 : Nat) (l0 : List S32) (w : World) (hr0 : Kd.C k32 w A0 l0.length l0) (hc0 : l0.length ≤ c0) :
    Calls Tryd.prog 4 #[.slice A0 l0.length c0] w fun e w' => e = .returned (.bool true) ∧ Below w.heap.size w w' := by
  obtain ⟨r, h60, hfew⟩ := few_calls A0 c0 l0 60 w hr0 hc0
  have HR0 := Aside0.mk hr0
  have HB := Aside0.mk (Below.refl w.heap.size w)
  clear hr0 hc0
  cases r with
  | false =>
    clear h60
    go_enter Tryd.func4, Tryd.ntmps4
    go_wp2_with (first | ((with_reducible refine gate_dst (N := 11) rfl ?_); (try (refine gate_guard (by rfl) ?_; dsimp only)); refine goesL_ (some 11) rfl rfl Tryd.func9 (by kernel_rfl) rfl #[] rfl (by (try simp only [List.map_toArray, List.map_cons, List.map_nil]); first | done | rfl) ?_; refine (head_calls _).mono ?_; rintro e wh ⟨rfl, hb⟩; have HB1 := Aside0.mk (below_step HB.out hb); clear hb HB; have HB := HB1; clear HB1; refine ⟨_, rfl, ?_⟩) | ((with_reducible refine gate_dst (N := 13) rfl ?_); (try (refine gate_guard (by rfl) ?_; dsimp only)); refine goesL_ (some 13) rfl rfl Tryd.func10 (by kernel_rfl) rfl #[.slice A0 l0.length c0, .int .i64 60] rfl (by (try simp only [List.map_toArray, List.map_cons, List.map_nil]); first | done | rfl) ?_; refine (hfew _ (Kd.C_below HR0.out HB.out)).mono ?_; rintro e w2 ⟨rfl, hb⟩; have HB1 := Aside0.mk (below_step HB.out hb); clear hb HB; have HB := HB1; clear HB1; refine ⟨_, rfl, ?_⟩))
    go_ret
    exact ⟨rfl, HB.out⟩
  | true =>
    have HL60 := Aside0.mk (h60 rfl)
    clear h60
    obtain ⟨L, hL⟩ : ∃ L, decL l0 = L := ⟨_, rfl⟩
    have HLd := Aside0.mk hL
    have HLn : Aside0 (L.length ≤ 60) := ⟨by have := decL_len l0; have := HL60.out; rw [← hL]; omega⟩
    have HA : Aside0 (Acc L) := ⟨hL ▸ acc_dec l0⟩
    have HGD : Aside0 (Good L) := ⟨hL ▸ good_dec l0⟩
    clear hL
    go_enter Tryd.func4, Tryd.ntmps4
    go_wp2_with (first | ((with_reducible refine gate_dst (N := 11) rfl ?_); (try (refine gate_guard (by rfl) ?_; dsimp only)); refine goesL_ (some 11) rfl rfl Tryd.func9 (by kernel_rfl) rfl #[] rfl (by (try simp only [List.map_toArray, List.map_cons, List.map_nil]); first | done | rfl) ?_; refine (head_calls _).mono ?_; rintro e wh ⟨rfl, hb⟩; have HB1 := Aside0.mk (below_step HB.out hb); clear hb HB; have HB := HB1; clear HB1; refine ⟨_, rfl, ?_⟩) | ((with_reducible refine gate_dst (N := 13) rfl ?_); (try (refine gate_guard (by rfl) ?_; dsimp only)); refine goesL_ (some 13) rfl rfl Tryd.func10 (by kernel_rfl) rfl #[.slice A0 l0.length c0, .int .i64 60] rfl (by (try simp only [List.map_toArray, List.map_cons, List.map_nil]); first | done | rfl) ?_; refine (hfew _ (Kd.C_below HR0.out HB.out)).mono ?_; rintro e w2 ⟨rfl, hb⟩; have HB1 := Aside0.mk (below_step HB.out hb); clear hb HB; have HB := HB1; clear HB1; refine ⟨_, rfl, ?_⟩) | ((with_reducible refine gate_dst (N := 17) rfl ?_); (try (refine gate_guard (by rfl) ?_; dsimp only)); refine goesL_ (some 17) rfl rfl Tryd.func22 (by kernel_rfl) rfl #[.slice A0 l0.length c0] rfl (by (try simp only [List.map_toArray, List.map_cons, List.map_nil]); first | done | rfl) ?_; refine (decided_calls A0 c0 l0 _ (Kd.C_below HR0.out HB.out) (by have := HL60.out; omega)).mono ?_; rintro e wd ⟨b, rfl, hi2, hlb⟩; rw [HLd.out] at hi2; have HI := Aside0.mk hi2; have hb := hi2.b0; clear hi2 hlb; have HB1 := Aside0.mk (below_step HB.out hb); clear hb HB; have HB := HB1; clear HB1; refine ⟨_, rfl, ?_⟩) | ((with_reducible refine gate_dst (N := 19) rfl ?_); (try (refine gate_guard (by rfl) ?_; dsimp only)); refine goesL_ (some 19) rfl rfl Tryd.func20 (by kernel_rfl) rfl #[.pointer (some ⟨b, 0, none⟩)] rfl (by (try simp only [List.map_toArray, List.map_cons, List.map_nil]); first | done | rfl) ?_; refine (inv_list HI.out (by have := HLn.out; omega)).mono ?_; rintro e wl ⟨vl, rfl, ho, hb⟩; obtain ⟨A1, c1, rfl⟩ := own_slice ho; have HC := Aside0.mk (C_of_cells ho rfl (by have := HLn.out; omega)); have HIl := Aside0.mk (HI.out.below hb); clear ho HI; have HB1 := Aside0.mk (below_step HB.out hb); clear hb HB; have HB := HB1; clear HB1; refine ⟨_, rfl, ?_⟩))
    go_loopg [6] (L.length + 1) (fun g v W => ∃ i : Nat, v = .int .i64 i ∧ i ≤ L.length ∧ Aside0 (L.length - i < g) ∧ Aside0 (Below wl.heap.size wl W))
    case atStart => exact ⟨0, rfl, Nat.zero_le _, ⟨by omega⟩, ⟨Below.refl _ _⟩⟩
    case round =>
      obtain ⟨i, rfl, hi1, HG, HW⟩ := hrel
      obtain ⟨g, rfl⟩ : ∃ g, gk = g + 1 := ⟨gk - 1, by have := HG.out; omega⟩
      by_cases hlt : i < L.length
      · have e2 : decide ((i : Int) < (L.length : Int)) = true := decide_eq_true (by omega)
        have e3 : decide (i < L.length) = true := decide_eq_true (by omega)
        have p0 : (0 ≤ (i : Int)) = True := eq_true (by omega)
        have p2 : ((i : Int) < (L.length : Int)) = True := eq_true (by omega)
        have hw : wrap64 ((i : Int) + 1) = (i : Int) + 1 := by unfold wrap64; have := HLn.out; omega
        have hw1 : wrap64 ((L.length : Int) - 1) = ((L.length - 1 : Nat) : Int) := by unfold wrap64; have := HLn.out; omega
        have HLT := Aside0.mk hlt
        have HON := Aside0.mk (fun nx (h : Nx L i i nx) => one_pure HGD.out HA.out hlt h)
        have hmem : (rd_T32 L (i : Int)) ∈ L := by rw [rd_get L i hlt]; exact List.getElem_mem hlt
        obtain ⟨t0, t1, t2⟩ := vd_parts (HGD.out.1 _ hmem)
        have HS0 := Aside0.mk (small_max (tok_size t0))
        have HS1 := Aside0.mk (small_max (tok_size t1))
        have HS2 := Aside0.mk (small_max (tok_size t2))
        clear hlt hmem t0 t1 t2
        go_wp2
        go_loopg [7, 8] (L.length + 1) (fun g v7 v8 W => ∃ (k : Nat) (nx : Int), v7 = .int .i64 nx ∧ v8 = .int .i64 k ∧ i ≤ k ∧ k < L.length ∧ Aside0 (k - i < g) ∧ Aside0 (Nx L i k nx) ∧ Aside0 (Below wl.heap.size wl W))
        case atStart => exact ⟨L.length - 1, -1, rfl, by rw [hw1], by have := HLT.out; omega, by have := HLT.out; omega, ⟨by have := HLT.out; omega⟩, ⟨nx_start L i _ (by omega)⟩, ⟨HW.out⟩⟩
        case round =>
          obtain ⟨k, nx, rfl, rfl, hk1, hk2, HGK, HNX, HV⟩ := hrel
          obtain ⟨f, rfl⟩ : ∃ f, gk = f + 1 := ⟨gk - 1, by have := HGK.out; omega⟩
          by_cases hk : i < k
          · have e4 : decide ((i : Int) < (k : Int)) = true := decide_eq_true (by omega)
            have e5 : decide (i < k) = true := decide_eq_true (by omega)
            have p3 : (0 ≤ (k : Int)) = True := eq_true (by omega)
            have p4 : ((k : Int) < (L.length : Int)) = True := eq_true (by omega)
            have e6 : decide ((k : Int) < (L.length : Int)) = true := decide_eq_true (by omega)
            have e7 : decide (k < L.length) = true := decide_eq_true (by omega)
            have hw2 : wrap64 ((k : Int) - 1) = ((k - 1 : Nat) : Int) := by unfold wrap64; have := HLn.out; omega
            have HKT := Aside0.mk hk2
            have HKI := Aside0.mk hk
            obtain ⟨ad0, rfl, x0, x1, x2, x3, x4, x5, x6⟩ := at_T32 (Kd.C_below HC.out HV.out) (i : Int) (Int.natCast_nonneg i) (by have := HLT.out; omega); simp only [Int.toNat_natCast] at x0 x1 x2 x3 x4 x5 x6
            obtain ⟨ad2, hA2, y0, y1, y2, y3, y4, y5, y6⟩ := at_T32 (Kd.C_below HC.out HV.out) (k : Int) (Int.natCast_nonneg k) (by have := HKT.out; omega); cases hA2; simp only [Int.toNat_natCast] at y0 y1 y2 y3 y4 y5 y6
            clear hk hk1 hk2
            rcases q1 : ((rd_T32 L (k : Int)).f1.toList == (rd_T32 L (i : Int)).f1.toList) with _ | _
            · go_wp2
              go_quiet (fail)
              go_wp2
              go_roundg f
              case measure => exact Nat.lt_succ_self f
              case rel => exact ⟨k - 1, nx, rfl, by first | rfl | go_num | (simp; done), by have := HKI.out; omega, by have := HKT.out; omega, ⟨by have := HGK.out; have := HKI.out; omega⟩, ⟨nx_miss1 HKT.out (by have := HKI.out; omega) q1 HNX.out⟩, ⟨below_step HV.out (by repeat (first | exact Below.refl _ _ | apply below_drew1 | apply pw_below_drewN))⟩⟩
            · rcases q2 : ((rd_T32 L (k : Int)).f2.toList == (rd_T32 L (i : Int)).f2.toList) with _ | _
              · go_wp2
                go_quiet (fail)
                go_wp2
                go_roundg f
                case measure => exact Nat.lt_succ_self f
                case rel => exact ⟨k - 1, nx, rfl, by first | rfl | go_num | (simp; done), by have := HKI.out; omega, by have := HKT.out; omega, ⟨by have := HGK.out; have := HKI.out; omega⟩, ⟨nx_miss2 HKT.out (by have := HKI.out; omega) q2 HNX.out⟩, ⟨below_step HV.out (by repeat (first | exact Below.refl _ _ | apply below_drew1 | apply pw_below_drewN))⟩⟩
              · go_wp2
                go_quiet (fail)
                go_wp2
                go_roundg f
                case measure => exact Nat.lt_succ_self f
                case rel => exact ⟨k - 1, k, rfl, by first | rfl | go_num | (simp; done), by have := HKI.out; omega, by have := HKT.out; omega, ⟨by have := HGK.out; have := HKI.out; omega⟩, ⟨nx_hit' HKT.out (by have := HKI.out; omega) q1 q2⟩, ⟨below_step HV.out (by repeat (first | exact Below.refl _ _ | apply below_drew1 | apply pw_below_drewN))⟩⟩
          · have e4 : decide ((i : Int) < (k : Int)) = false := decide_eq_false (by omega)
            have e5 : decide (i < k) = false := decide_eq_false (by omega)
            obtain rfl : i = k := by omega
            clear hk hk1 hk2 hw1
            obtain ⟨ad0, rfl, x0, x1, x2, x3, x4, x5, x6⟩ := at_T32 (Kd.C_below HC.out HV.out) (i : Int) (Int.natCast_nonneg i) (by have := HLT.out; omega); simp only [Int.toNat_natCast] at x0 x1 x2 x3 x4 x5 x6
            rcases HON.out nx HNX.out with ⟨rfl, hst, hval⟩ | ⟨j, nv, rfl, hj1, hj2, hst, h6, h5, hval⟩
            · have HST := Aside0.mk hst
              have hqq : ((rd_T32 L (i : Int)).f3 != (rd_T32 L (i : Int)).f3) = false := bne_eq_false_iff_eq.2 rfl
              have HVL := Aside0.mk hval
              clear hst hval HON HNX
              go_wp2_with ((with_reducible refine gate_dst (N := 65) rfl ?_); (try (refine gate_guard (by rfl) ?_; dsimp only)); refine goesL_ (some 65) rfl rfl Tryd.func15 (by kernel_rfl) rfl #[.pointer (some ⟨b, 0, none⟩), .string (rd_T32 L (i : Int)).f0] rfl (by (try simp only [List.map_toArray, List.map_cons, List.map_nil]); first | done | rfl) ?_; refine (inv_stands (rd_T32 L (i : Int)).f0 (HIl.out.below HV.out) HS0.out).mono ?_; rintro e w9 ⟨he, hb⟩; rw [HST.out] at he; subst he; have HV9 := Aside0.mk (below_step HV.out hb); clear hb; clear x0 x1 x2 x3 x4 x5 x6; obtain ⟨ad1, hA1, x0, x1, x2, x3, x4, x5, x6⟩ := at_T32 (Kd.C_below HC.out HV9.out) (i : Int) (Int.natCast_nonneg i) (by have := HLT.out; omega); cases hA1; simp only [Int.toNat_natCast] at x0 x1 x2 x3 x4 x5 x6; refine ⟨_, rfl, ?_⟩)
              go_quiet (fail)
              refine ex_gen (fun V => Below w9.heap.size w9 V) (pw_below_drewN (Below.refl _ _) _) ?_
              rintro V hV
              have HV10 := Aside0.mk (below_step HV9.out hV)
              clear hV
              clear x0 x1 x2 x3 x4 x5 x6; obtain ⟨ad1, hA1, x0, x1, x2, x3, x4, x5, x6⟩ := at_T32 (Kd.C_below HC.out HV10.out) (i : Int) (Int.natCast_nonneg i) (by have := HLT.out; omega); cases hA1; simp only [Int.toNat_natCast] at x0 x1 x2 x3 x4 x5 x6
              go_wp2
              have hv : ∀ n : Nat, Calls Tryd.prog 17 #[.pointer (some ⟨b, 0, none⟩), .string (rd_T32 L (i : Int)).f1, .string (rd_T32 L (i : Int)).f2] (V.drewN n) fun e w' => e = .returned (.tuple #[.int .i64 (rd_T32 L (i : Int)).f3, .bool true]) ∧ w' = V.drewN n := fun n => by
                have := inv_value (rd_T32 L (i : Int)).f1 (rd_T32 L (i : Int)).f2 (HIl.out.below (below_step HV10.out (pw_below_drewN (Below.refl _ _) n))) HS1.out HS2.out
                rw [HVL.out] at this
                exact this
              go_quiet ((go_at_call 17; exact Calls.quiet_of_same (hv _)))
              clear hv
              go_wp2
              go_roundg g
              case measure => exact Nat.lt_succ_self g
              case rel => exact ⟨i + 1, by first | rfl | go_num | (simp; done), by have := HLT.out; omega, ⟨by have := HG.out; have := HLT.out; omega⟩, ⟨below_step HV10.out (by repeat (first | exact Below.refl _ _ | apply below_drew1 | apply pw_below_drewN))⟩⟩
            · have HST := Aside0.mk hst
              have HVL := Aside0.mk hval
              have HKT := Aside0.mk hj2
              have e6 : decide ((j : Int) < 0) = false := decide_eq_false (by omega)
              have e7 : decide (0 ≤ (j : Int)) = true := decide_eq_true (by omega)
              have p3 : (0 ≤ (j : Int)) = True := eq_true (by omega)
              have p5 : ((j : Int) < 0) = False := eq_false (by omega)
              have p4 : ((j : Int) < (L.length : Int)) = True := eq_true (by omega)
              have e8 : decide ((j : Int) < (L.length : Int)) = true := decide_eq_true (by omega)
              have e9 : decide (j < L.length) = true := decide_eq_true (by omega)
              have hqq : ((rd_T32 L (j : Int)).f6.toList != (rd_T32 L (i : Int)).f0.toList) = false := bne_eq_false_iff_eq.2 h6
              have hq3 : ((rd_T32 L (j : Int)).f6.toList == (rd_T32 L (i : Int)).f0.toList) = true := beq_iff_eq.2 h6
              have H5 := Aside0.mk h5
              clear hst hval HON HNX hj1 hj2 h6 h5
              go_wp2_with ((with_reducible refine gate_dst (N := 65) rfl ?_); (try (refine gate_guard (by rfl) ?_; dsimp only)); refine goesL_ (some 65) rfl rfl Tryd.func15 (by kernel_rfl) rfl #[.pointer (some ⟨b, 0, none⟩), .string (rd_T32 L (i : Int)).f0] rfl (by (try simp only [List.map_toArray, List.map_cons, List.map_nil]); first | done | rfl) ?_; refine (inv_stands (rd_T32 L (i : Int)).f0 (HIl.out.below HV.out) HS0.out).mono ?_; rintro e w9 ⟨he, hb⟩; rw [HST.out] at he; subst he; have HV9 := Aside0.mk (below_step HV.out hb); clear hb; clear x0 x1 x2 x3 x4 x5 x6; obtain ⟨ad1, hA1, x0, x1, x2, x3, x4, x5, x6⟩ := at_T32 (Kd.C_below HC.out HV9.out) (i : Int) (Int.natCast_nonneg i) (by have := HLT.out; omega); cases hA1; simp only [Int.toNat_natCast] at x0 x1 x2 x3 x4 x5 x6; obtain ⟨ad2, hA2, y0, y1, y2, y3, y4, y5, y6⟩ := at_T32 (Kd.C_below HC.out HV9.out) (j : Int) (Int.natCast_nonneg j) (by have := HKT.out; omega); cases hA2; simp only [Int.toNat_natCast] at y0 y1 y2 y3 y4 y5 y6; rw [H5.out] at x5; refine ⟨_, rfl, ?_⟩)
              go_quiet (fail)
              refine ex_gen (fun V => Below w9.heap.size w9 V) (pw_below_drewN (Below.refl _ _) _) ?_
              rintro V hV
              have HV10 := Aside0.mk (below_step HV9.out hV)
              clear hV
              clear x0 x1 x2 x3 x4 x5 x6; obtain ⟨ad1, hA1, x0, x1, x2, x3, x4, x5, x6⟩ := at_T32 (Kd.C_below HC.out HV10.out) (i : Int) (Int.natCast_nonneg i) (by have := HLT.out; omega); cases hA1; simp only [Int.toNat_natCast] at x0 x1 x2 x3 x4 x5 x6
              go_wp2
              have hv : ∀ n : Nat, Calls Tryd.prog 17 #[.pointer (some ⟨b, 0, none⟩), .string (rd_T32 L (i : Int)).f1, .string (rd_T32 L (i : Int)).f2] (V.drewN n) fun e w' => e = .returned (.tuple #[.int .i64 nv, .bool true]) ∧ w' = V.drewN n := fun n => by
                have := inv_value (rd_T32 L (i : Int)).f1 (rd_T32 L (i : Int)).f2 (HIl.out.below (below_step HV10.out (pw_below_drewN (Below.refl _ _) n))) HS1.out HS2.out
                rw [HVL.out] at this
                exact this
              go_quiet ((go_at_call 17; exact Calls.quiet_of_same (hv _)))
              clear hv
              go_wp2
              go_roundg g
              case measure => exact Nat.lt_succ_self g
              case rel => exact ⟨i + 1, by first | rfl | go_num | (simp; done), by have := HLT.out; omega, ⟨by have := HG.out; have := HLT.out; omega⟩, ⟨below_step HV10.out (by repeat (first | exact Below.refl _ _ | apply below_drew1 | apply pw_below_drewN))⟩⟩
      · have e2 : decide ((i : Int) < (L.length : Int)) = false := decide_eq_false (by omega)
        have e3 : decide (i < L.length) = false := decide_eq_false (by omega)
        clear hlt
        go_wp2
        go_ret
        exact ⟨rfl, below_step HB.out HW.out⟩
end Go.Proofs.YtbmmedoopjjbkaaDoor.Fin
