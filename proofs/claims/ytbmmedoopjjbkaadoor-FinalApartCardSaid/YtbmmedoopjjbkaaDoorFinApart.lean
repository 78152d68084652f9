/- FinalApart, walked: the verdicts about one matter alone. -/
import Derived.Test.YtbmmedoopjjbkaaDoorFinPure4
import Derived.Deep.QuietTactic
import Derived.BigQuiet
import Derived.Deep.RegionWith
import Derived.RegionTactic
import Derived.BigRegion
namespace Go.Proofs.YtbmmedoopjjbkaaDoor.Fin
open Go.RowKit Go.Proofs.YtbmmedoopjjbkaaDoor.H Go.Proofs.YtbmmedoopjjbkaaDoorW.PrintWords Go.Proofs.YtbmmedoopjjbkaaDoorW.PrintLast Go.Proofs.YtbmmedoopjjbkaaDoorW.PrintMore
set_option linter.unusedVariables false
set_option linter.unusedSimpArgs false
attribute [local go_sem] Oper.semAt_some

set_option maxRecDepth 100000 in
set_option maxHeartbeats 4000000 in
theorem FinalApart_calls (A0 : Option Addr) (c0 : Nat) (l0 : List S32) (a1 : Int) (w : World) (hr0 : Kd.C k32 w A0 l0.length l0) (hc0 : l0.length ≤ c0) (hw1 : (Lit.int .u8 a1).wf = true) :
    Calls Tryd.prog 8 #[.slice A0 l0.length c0, .int .u8 a1] w fun e w' => e = .returned (.bool true) ∧ Below w.heap.size w w' := by
  obtain ⟨r, h60, hfew⟩ := few_calls A0 c0 l0 60 w hr0 hc0
  have HR0 := Aside0.mk hr0
  have HB := Aside0.mk (Below.refl w.heap.size w)
  clear hr0 hc0
  cases r with
  | false =>
    clear h60
    go_enter Tryd.func8, Tryd.ntmps8
    go_wp2_with (first | ((with_reducible refine gate_dst (N := 12) rfl ?_); (try (refine gate_guard (by rfl) ?_; dsimp only)); refine goesL_ (some 12) rfl rfl Tryd.func9 (by kernel_rfl) rfl #[] rfl (by (try simp only [List.map_toArray, List.map_cons, List.map_nil]); first | done | rfl) ?_; refine (head_calls _).mono ?_; rintro e wh ⟨rfl, hb⟩; have HB1 := Aside0.mk (below_step HB.out hb); clear hb HB; have HB := HB1; clear HB1; refine ⟨_, rfl, ?_⟩) | ((with_reducible refine gate_dst (N := 14) rfl ?_); (try (refine gate_guard (by rfl) ?_; dsimp only)); refine goesL_ (some 14) rfl rfl Tryd.func10 (by kernel_rfl) rfl #[.slice A0 l0.length c0, .int .i64 60] rfl (by (try simp only [List.map_toArray, List.map_cons, List.map_nil]); first | done | rfl) ?_; refine (hfew _ (Kd.C_below HR0.out HB.out)).mono ?_; rintro e w2 ⟨rfl, hb⟩; have HB1 := Aside0.mk (below_step HB.out hb); clear hb HB; have HB := HB1; clear HB1; refine ⟨_, rfl, ?_⟩))
    go_ret
    exact ⟨rfl, HB.out⟩
  | true =>
    have HL60 := Aside0.mk (h60 rfl)
    clear h60
    by_cases hz : l0.length = 0
    · have e0 : ((l0.length : Int) == 0) = true := beq_iff_eq.2 (by omega)
      clear hz
      go_enter Tryd.func8, Tryd.ntmps8
      go_wp2_with (first | ((with_reducible refine gate_dst (N := 12) rfl ?_); (try (refine gate_guard (by rfl) ?_; dsimp only)); refine goesL_ (some 12) rfl rfl Tryd.func9 (by kernel_rfl) rfl #[] rfl (by (try simp only [List.map_toArray, List.map_cons, List.map_nil]); first | done | rfl) ?_; refine (head_calls _).mono ?_; rintro e wh ⟨rfl, hb⟩; have HB1 := Aside0.mk (below_step HB.out hb); clear hb HB; have HB := HB1; clear HB1; refine ⟨_, rfl, ?_⟩) | ((with_reducible refine gate_dst (N := 14) rfl ?_); (try (refine gate_guard (by rfl) ?_; dsimp only)); refine goesL_ (some 14) rfl rfl Tryd.func10 (by kernel_rfl) rfl #[.slice A0 l0.length c0, .int .i64 60] rfl (by (try simp only [List.map_toArray, List.map_cons, List.map_nil]); first | done | rfl) ?_; refine (hfew _ (Kd.C_below HR0.out HB.out)).mono ?_; rintro e w2 ⟨rfl, hb⟩; have HB1 := Aside0.mk (below_step HB.out hb); clear hb HB; have HB := HB1; clear HB1; refine ⟨_, rfl, ?_⟩))
      go_ret
      exact ⟨rfl, HB.out⟩
    have e0 : ((l0.length : Int) == 0) = false := beq_eq_false_iff_ne.2 (by omega)
    have hr1 : 0 ≤ a1 ∧ a1 ≤ 255 := by
      simpa [Lit.wf, IntKind.min, IntKind.max, IntKind.signed, IntKind.bits] using hw1
    have hwa : wrap64 a1 = a1 := by unfold wrap64; omega
    have hnz : ((l0.length : Int) = 0) = False := eq_false (by omega)
    have hnz2 : (l0.length = 0) = False := eq_false hz
    have HQ0 : Aside0 (0 ≤ Int.tmod a1 (l0.length : Int)) := ⟨Int.tmod_nonneg _ hr1.1⟩
    have HQ1 : Aside0 (Int.tmod a1 (l0.length : Int) < (l0.length : Int)) := ⟨Int.tmod_lt_of_pos _ (by omega)⟩
    obtain ⟨q, hq⟩ : ∃ q, Int.tmod a1 (l0.length : Int) = q := ⟨_, rfl⟩
    rw [hq] at HQ0 HQ1
    have q0 : (0 ≤ q) = True := eq_true HQ0.out
    have q1 : (q < (l0.length : Int)) = True := eq_true HQ1.out
    obtain ⟨L, hL⟩ : ∃ L, decL l0 = L := ⟨_, rfl⟩
    have HLd := Aside0.mk hL
    have HLn : Aside0 (L.length ≤ 60) := ⟨by have := decL_len l0; have := HL60.out; rw [← hL]; omega⟩
    have HA : Aside0 (Acc L) := ⟨hL ▸ acc_dec l0⟩
    have HGD : Aside0 (Good L) := ⟨hL ▸ good_dec l0⟩
    clear hL hz hr1 hw1
    go_enter Tryd.func8, Tryd.ntmps8
    go_wp2_with (first | ((with_reducible refine gate_dst (N := 12) rfl ?_); (try (refine gate_guard (by rfl) ?_; dsimp only)); refine goesL_ (some 12) rfl rfl Tryd.func9 (by kernel_rfl) rfl #[] rfl (by (try simp only [List.map_toArray, List.map_cons, List.map_nil]); first | done | rfl) ?_; refine (head_calls _).mono ?_; rintro e wh ⟨rfl, hb⟩; have HB1 := Aside0.mk (below_step HB.out hb); clear hb HB; have HB := HB1; clear HB1; refine ⟨_, rfl, ?_⟩) | ((with_reducible refine gate_dst (N := 14) rfl ?_); (try (refine gate_guard (by rfl) ?_; dsimp only)); refine goesL_ (some 14) rfl rfl Tryd.func10 (by kernel_rfl) rfl #[.slice A0 l0.length c0, .int .i64 60] rfl (by (try simp only [List.map_toArray, List.map_cons, List.map_nil]); first | done | rfl) ?_; refine (hfew _ (Kd.C_below HR0.out HB.out)).mono ?_; rintro e w2 ⟨rfl, hb⟩; have HB1 := Aside0.mk (below_step HB.out hb); clear hb HB; have HB := HB1; clear HB1; refine ⟨_, rfl, ?_⟩) | ((with_reducible refine gate_dst (N := 23) rfl ?_); (try (refine gate_guard (by rfl) ?_; dsimp only)); refine goesL_ (some 23) rfl rfl Tryd.func22 (by kernel_rfl) rfl #[.slice A0 l0.length c0] rfl (by (try simp only [List.map_toArray, List.map_cons, List.map_nil]); first | done | rfl) ?_; refine (decided_calls A0 c0 l0 _ (Kd.C_below HR0.out HB.out) (by have := HL60.out; omega)).mono ?_; rintro e wd ⟨b, rfl, hi2, hlb⟩; rw [HLd.out] at hi2; have HI := Aside0.mk hi2; have hb := hi2.b0; clear hi2 hlb; have HB1 := Aside0.mk (below_step HB.out hb); clear hb HB; have HB := HB1; clear HB1; refine ⟨_, rfl, ?_⟩) | ((with_reducible refine gate_dst (N := 25) rfl ?_); (try (refine gate_guard (by rfl) ?_; dsimp only)); refine goesL_ (some 25) rfl rfl Tryd.func20 (by kernel_rfl) rfl #[.pointer (some ⟨b, 0, none⟩)] rfl (by (try simp only [List.map_toArray, List.map_cons, List.map_nil]); first | done | rfl) ?_; refine (inv_list HI.out (by have := HLn.out; omega)).mono ?_; rintro e wl ⟨vl, rfl, ho, hb⟩; obtain ⟨A1, c1, rfl⟩ := own_slice ho; have HC := Aside0.mk (C_of_cells ho rfl (by have := HLn.out; omega)); have HIl := Aside0.mk (HI.out.below hb); clear ho HI; have HB1 := Aside0.mk (below_step HB.out hb); clear hb HB; have HB := HB1; clear HB1; obtain ⟨ad9, rfl, z0, z1, z2, z3, z4, z5, z6⟩ := at_T32 (Kd.C_below HR0.out HB.out) q HQ0.out HQ1.out; clear z0 z2 z3 z4 z5 z6; refine ⟨_, rfl, ?_⟩) | ((with_reducible refine gate_dst (N := 35) rfl ?_); (try (refine gate_guard (by rfl) ?_; dsimp only)); refine goesL_ (some 35) rfl rfl Tryd.func11 (by kernel_rfl) rfl #[] rfl (by (try simp only [List.map_toArray, List.map_cons, List.map_nil]); first | done | rfl) ?_; refine (inv_new _).mono ?_; rintro e wn ⟨s, rfl, hs, hls⟩; have HS := Aside0.mk hs; clear hs hls; refine ⟨_, rfl, ?_⟩))
    go_loopg [10] (L.length + 1) (fun g v W => ∃ i : Nat, v = .int .i64 i ∧ i ≤ L.length ∧ Aside0 (L.length - i < g) ∧ Aside0 (Inv wl no W s (flt (rd_T32 l0 q).f1 (L.take i))))
    case atStart => exact ⟨0, rfl, Nat.zero_le _, ⟨by omega⟩, ⟨HS.out⟩⟩
    case round =>
      obtain ⟨i, rfl, hi1, HG, HI⟩ := hrel
      obtain ⟨g, rfl⟩ : ∃ g, gk = g + 1 := ⟨gk - 1, by have := HG.out; omega⟩
      by_cases hlt : i < L.length
      · have e2 : decide ((i : Int) < (L.length : Int)) = true := decide_eq_true (by omega)
        have e3 : decide (i < L.length) = true := decide_eq_true (by omega)
        have p0 : (0 ≤ (i : Int)) = True := eq_true (by omega)
        have p2 : ((i : Int) < (L.length : Int)) = True := eq_true (by omega)
        have hw : wrap64 ((i : Int) + 1) = (i : Int) + 1 := by unfold wrap64; have := HLn.out; omega
        have HLT := Aside0.mk hlt
        clear hlt
        obtain ⟨ad0, rfl, x0, x1, x2, x3, x4, x5, x6⟩ := at_T32 (Kd.C_below HC.out HI.out.b0) (i : Int) (Int.natCast_nonneg i) (by have := HLT.out; omega); simp only [Int.toNat_natCast] at x0 x1 x2 x3 x4 x5 x6
        rcases h5 : ((rd_T32 L (i : Int)).f1.toList == (rd_T32 l0 q).f1.toList) with _ | _
        · go_wp2
          go_roundg g
          case measure => exact Nat.lt_succ_self g
          case rel => exact ⟨i + 1, by first | rfl | go_num | (simp; done), by have := HLT.out; omega, ⟨by have := HG.out; have := HLT.out; omega⟩, ⟨by rw [flt_miss HLT.out h5]; exact HI.out⟩⟩
        · have HFH := Aside0.mk (flt_hit HA.out HLT.out h5)
          go_wp2_with (go_at_call 13; go_loud (refine (inv_decide (rd_T32 L (i : Int)) HI.out (by have := flt_len (rd_T32 l0 q).f1 L i; have := HLn.out; omega)).mono ?_; rintro e w2 ⟨he, hr⟩; rw [HFH.out.1] at he; subst he; rw [HFH.out.2] at hr; have HI2 := Aside0.mk hr; clear hr; clear x0 x1 x2 x3 x4 x5 x6; obtain ⟨ad1, hA1, x0, x1, x2, x3, x4, x5, x6⟩ := at_T32 (Kd.C_below HC.out HI2.out.b0) (i : Int) (Int.natCast_nonneg i) (by have := HLT.out; omega); cases hA1; simp only [Int.toNat_natCast] at x0 x1 x2 x3 x4 x5 x6))
          go_roundg g
          case measure => exact Nat.lt_succ_self g
          case rel => exact ⟨i + 1, by first | rfl | go_num | (simp; done), by have := HLT.out; omega, ⟨by have := HG.out; have := HLT.out; omega⟩, ⟨HI2.out⟩⟩
      · have e2 : decide ((i : Int) < (L.length : Int)) = false := decide_eq_false (by omega)
        have e3 : decide (i < L.length) = false := decide_eq_false (by omega)
        obtain rfl : i = L.length := by omega
        have HI9 : Aside0 (Inv wl no wr s (flt (rd_T32 l0 q).f1 L)) := ⟨by have h := HI.out; rw [List.take_length] at h; exact h⟩
        have HR9 := Aside0.mk (HIl.out.below HI9.out.b0)
        have HB9 := Aside0.mk (below_step HB.out HI9.out.b0)
        have HC9 := Aside0.mk (Kd.C_below HC.out HI9.out.b0)
        clear hlt HI HG HS HIl
        go_wp2
        go_loopg [11] (L.length + 1) (fun g v W => ∃ i : Nat, v = .int .i64 i ∧ i ≤ L.length ∧ Aside0 (L.length - i < g) ∧ Aside0 (Below wr.heap.size wr W))
        case atStart => exact ⟨0, rfl, Nat.zero_le _, ⟨by omega⟩, ⟨Below.refl _ _⟩⟩
        case round =>
          obtain ⟨i, rfl, hi1, HG, HW⟩ := hrel
          obtain ⟨g, rfl⟩ : ∃ g, gk = g + 1 := ⟨gk - 1, by have := HG.out; omega⟩
          by_cases hlt : i < L.length
          · have e2 : decide ((i : Int) < (L.length : Int)) = true := decide_eq_true (by omega)
            have e3 : decide (i < L.length) = true := decide_eq_true (by omega)
            have p0 : (0 ≤ (i : Int)) = True := eq_true (by omega)
            have p2 : ((i : Int) < (L.length : Int)) = True := eq_true (by omega)
            have hw : wrap64 ((i : Int) + 1) = (i : Int) + 1 := by unfold wrap64; have := HLn.out; omega
            have HLT := Aside0.mk hlt
            have hmem : (rd_T32 L (i : Int)) ∈ L := by rw [rd_get L i hlt]; exact List.getElem_mem hlt
            obtain ⟨t0, t1, t2⟩ := vd_parts (HGD.out.1 _ hmem)
            have HS0 := Aside0.mk (small_max (tok_size t0))
            clear hlt hmem t0 t1 t2
            obtain ⟨ad0, rfl, x0, x1, x2, x3, x4, x5, x6⟩ := at_T32 (Kd.C_below HC.out (below_step HI9.out.b0 HW.out)) (i : Int) (Int.natCast_nonneg i) (by have := HLT.out; omega); simp only [Int.toNat_natCast] at x0 x1 x2 x3 x4 x5 x6
            have HCW := Aside0.mk (Kd.C_below HC.out (below_step HI9.out.b0 HW.out))
            have HF : ∀ w' : World, Kd.C k32 w' (some ad0) L.length L → w'.cell? (ad0.add (i * 7)) = some (.string (rd_T32 L (i : Int)).f0) ∧ w'.cell? ⟨(ad0.add (i * 7)).block, (ad0.add (i * 7)).off + 1, none⟩ = some (.string (rd_T32 L (i : Int)).f1) ∧ w'.cell? ⟨(ad0.add (i * 7)).block, (ad0.add (i * 7)).off + 2, none⟩ = some (.string (rd_T32 L (i : Int)).f2) ∧ w'.cell? ⟨(ad0.add (i * 7)).block, (ad0.add (i * 7)).off + 3, none⟩ = some (.int .i64 (rd_T32 L (i : Int)).f3) ∧ w'.cell? ⟨(ad0.add (i * 7)).block, (ad0.add (i * 7)).off + 4, none⟩ = some (.int .i64 (rd_T32 L (i : Int)).f4) ∧ w'.cell? ⟨(ad0.add (i * 7)).block, (ad0.add (i * 7)).off + 5, none⟩ = some (.bool (rd_T32 L (i : Int)).f5) ∧ w'.cell? ⟨(ad0.add (i * 7)).block, (ad0.add (i * 7)).off + 6, none⟩ = some (.string (rd_T32 L (i : Int)).f6) := by
              intro w' h
              obtain ⟨ad1, hA1, h⟩ := at_T32 h (i : Int) (Int.natCast_nonneg i) (by have := HLT.out; omega)
              cases hA1
              simpa only [Int.toNat_natCast] using h
            rcases h5 : ((rd_T32 L (i : Int)).f1.toList == (rd_T32 l0 q).f1.toList) with _ | _
            · go_wp2
              go_quiet (fail)
              go_wp2
              go_roundg g
              case measure => exact Nat.lt_succ_self g
              case rel => exact ⟨i + 1, by first | rfl | go_num | (simp; done), by have := HLT.out; omega, ⟨by have := HG.out; have := HLT.out; omega⟩, ⟨below_step HW.out (by repeat (first | exact Below.refl _ _ | apply below_drew1 | apply pw_below_drewN))⟩⟩
            · have HST := Aside0.mk (flt_st HGD.out HLT.out h5)
              go_wp2
              refine start_ (n := 24) (S := fun w' => w'.cell? (ad0.add (i * 7)) = some (.string (rd_T32 L (i : Int)).f0) ∧ w'.cell? ⟨(ad0.add (i * 7)).block, (ad0.add (i * 7)).off + 1, none⟩ = some (.string (rd_T32 L (i : Int)).f1) ∧ w'.cell? ⟨(ad0.add (i * 7)).block, (ad0.add (i * 7)).off + 2, none⟩ = some (.string (rd_T32 L (i : Int)).f2) ∧ w'.cell? ⟨(ad0.add (i * 7)).block, (ad0.add (i * 7)).off + 3, none⟩ = some (.int .i64 (rd_T32 L (i : Int)).f3) ∧ w'.cell? ⟨(ad0.add (i * 7)).block, (ad0.add (i * 7)).off + 4, none⟩ = some (.int .i64 (rd_T32 L (i : Int)).f4) ∧ w'.cell? ⟨(ad0.add (i * 7)).block, (ad0.add (i * 7)).off + 5, none⟩ = some (.bool (rd_T32 L (i : Int)).f5) ∧ w'.cell? ⟨(ad0.add (i * 7)).block, (ad0.add (i * 7)).off + 6, none⟩ = some (.string (rd_T32 L (i : Int)).f6)) (ds := []) #[false, false, false, false, false, false, false, false, false, false, false, false, false, false, false, false, false, false, false, false, false, false, false, false] (by kernel_rfl) rfl rfl (HF wr.drew (Kd.C_below HCW.out (Below.refl _ _).drew)) (fun hHeld => ?_)
              refine pure_ (i := 0) (N := some 64) (v := ?_) (a' := ?_) #[true, false, false, false, false, false, false, false, false, false, false, false, false, false, false, false, false, false, false, false, false, false, false, false] rfl rfl (by kernel_rfl) (fun _ _ _ h => h) (Or.inl ⟨by rfl, ?_⟩) ?_ ?_
              rotate_left
              · intro w'
                go_simp
                with_reducible rfl
              rotate_left
              · simp only [Act.put, List.setIfInBounds_toArray, List.set_cons_zero, List.set_cons_succ, i64_w, i32_w]
                rfl
              refine pure_ (i := 1) (N := some 65) (v := ?_) (a' := ?_) #[true, true, false, false, false, false, false, false, false, false, false, false, false, false, false, false, false, false, false, false, false, false, false, false] rfl rfl (by kernel_rfl) (fun _ _ _ h => h) (Or.inl ⟨by rfl, ?_⟩) ?_ ?_
              rotate_left
              · intro w'
                go_simp
                with_reducible rfl
              rotate_left
              · simp only [Act.put, List.setIfInBounds_toArray, List.set_cons_zero, List.set_cons_succ, i64_w, i32_w]
                rfl
              refine pure_ (i := 2) (N := some 66) (v := ?_) (a' := ?_) #[true, true, true, false, false, false, false, false, false, false, false, false, false, false, false, false, false, false, false, false, false, false, false, false] rfl rfl (by kernel_rfl) (fun _ _ _ h => h) (Or.inl ⟨by rfl, ?_⟩) ?_ ?_
              rotate_left
              · intro w'
                go_simp
                with_reducible rfl
              rotate_left
              · simp only [Act.put, List.setIfInBounds_toArray, List.set_cons_zero, List.set_cons_succ, i64_w, i32_w]
                rfl
              refine pure_ (i := 3) (N := some 67) (v := ?_) (a' := ?_) #[true, true, true, true, false, false, false, false, false, false, false, false, false, false, false, false, false, false, false, false, false, false, false, false] rfl rfl (by kernel_rfl) (fun _ _ _ h => h) (Or.inl ⟨by rfl, ?_⟩) ?_ ?_
              rotate_left
              · intro w'
                go_simp
                with_reducible rfl
              rotate_left
              · simp only [Act.put, List.setIfInBounds_toArray, List.set_cons_zero, List.set_cons_succ, i64_w, i32_w]
                rfl
              refine take_ (i := 4) (N := some 68) (v := ?_) (a' := ?_) #[true, true, true, true, true, false, false, false, false, false, false, false, false, false, false, false, false, false, false, false, false, false, false, false] rfl rfl (by kernel_rfl) (fun _ _ _ h => h) (Or.inl ⟨by rfl, ?_⟩) hHeld ?_ ?_
              rotate_left
              · rintro w' ⟨s0, s1, s2, s3, s4, s5, s6⟩
                go_simp
                with_reducible rfl
              rotate_left
              · simp only [Act.put, List.setIfInBounds_toArray, List.set_cons_zero, List.set_cons_succ, i64_w, i32_w]
                rfl
              refine pure_ (i := 5) (N := some 69) (v := ?_) (a' := ?_) #[true, true, true, true, true, true, false, false, false, false, false, false, false, false, false, false, false, false, false, false, false, false, false, false] rfl rfl (by kernel_rfl) (fun _ _ _ h => h) (Or.inl ⟨by rfl, ?_⟩) ?_ ?_
              rotate_left
              · intro w'
                go_simp
                with_reducible rfl
              rotate_left
              · simp only [Act.put, List.setIfInBounds_toArray, List.set_cons_zero, List.set_cons_succ, i64_w, i32_w]
                rfl
              refine pure_ (i := 6) (N := some 70) (v := ?_) (a' := ?_) #[true, true, true, true, true, true, true, false, false, false, false, false, false, false, false, false, false, false, false, false, false, false, false, false] rfl rfl (by kernel_rfl) (fun _ _ _ h => h) (Or.inl ⟨by rfl, ?_⟩) ?_ ?_
              rotate_left
              · intro w'
                go_simp
                with_reducible rfl
              rotate_left
              · simp only [Act.put, List.setIfInBounds_toArray, List.set_cons_zero, List.set_cons_succ, i64_w, i32_w]
                rfl
              refine pure_ (i := 7) (N := some 71) (v := ?_) (a' := ?_) #[true, true, true, true, true, true, true, true, false, false, false, false, false, false, false, false, false, false, false, false, false, false, false, false] rfl rfl (by kernel_rfl) (fun _ _ _ h => h) (Or.inl ⟨by rfl, ?_⟩) ?_ ?_
              rotate_left
              · intro w'
                go_simp
                with_reducible rfl
              rotate_left
              · simp only [Act.put, List.setIfInBounds_toArray, List.set_cons_zero, List.set_cons_succ, i64_w, i32_w]
                rfl
              refine pure_ (i := 8) (N := some 72) (v := ?_) (a' := ?_) #[true, true, true, true, true, true, true, true, true, false, false, false, false, false, false, false, false, false, false, false, false, false, false, false] rfl rfl (by kernel_rfl) (fun _ _ _ h => h) (Or.inl ⟨by rfl, ?_⟩) ?_ ?_
              rotate_left
              · intro w'
                go_simp
                with_reducible rfl
              rotate_left
              · simp only [Act.put, List.setIfInBounds_toArray, List.set_cons_zero, List.set_cons_succ, i64_w, i32_w]
                rfl
              refine pure_ (i := 9) (N := some 73) (v := ?_) (a' := ?_) #[true, true, true, true, true, true, true, true, true, true, false, false, false, false, false, false, false, false, false, false, false, false, false, false] rfl rfl (by kernel_rfl) (fun _ _ _ h => h) (Or.inl ⟨by rfl, ?_⟩) ?_ ?_
              rotate_left
              · intro w'
                go_simp
                with_reducible rfl
              rotate_left
              · simp only [Act.put, List.setIfInBounds_toArray, List.set_cons_zero, List.set_cons_succ, i64_w, i32_w]
                rfl
              refine pure_ (i := 10) (N := some 74) (v := ?_) (a' := ?_) #[true, true, true, true, true, true, true, true, true, true, true, false, false, false, false, false, false, false, false, false, false, false, false, false] rfl rfl (by kernel_rfl) (fun _ _ _ h => h) (Or.inl ⟨by rfl, ?_⟩) ?_ ?_
              rotate_left
              · intro w'
                go_simp
                with_reducible rfl
              rotate_left
              · simp only [Act.put, List.setIfInBounds_toArray, List.set_cons_zero, List.set_cons_succ, i64_w, i32_w]
                rfl
              refine pure_ (i := 11) (N := some 75) (v := ?_) (a' := ?_) #[true, true, true, true, true, true, true, true, true, true, true, true, false, false, false, false, false, false, false, false, false, false, false, false] rfl rfl (by kernel_rfl) (fun _ _ _ h => h) (Or.inl ⟨by rfl, ?_⟩) ?_ ?_
              rotate_left
              · intro w'
                go_simp
                with_reducible rfl
              rotate_left
              · simp only [Act.put, List.setIfInBounds_toArray, List.set_cons_zero, List.set_cons_succ, i64_w, i32_w]
                rfl
              refine pure_ (i := 12) (N := some 76) (v := ?_) (a' := ?_) #[true, true, true, true, true, true, true, true, true, true, true, true, true, false, false, false, false, false, false, false, false, false, false, false] rfl rfl (by kernel_rfl) (fun _ _ _ h => h) (Or.inl ⟨by rfl, ?_⟩) ?_ ?_
              rotate_left
              · intro w'
                go_simp
                with_reducible rfl
              rotate_left
              · simp only [Act.put, List.setIfInBounds_toArray, List.set_cons_zero, List.set_cons_succ, i64_w, i32_w]
                rfl
              refine take_ (i := 13) (N := some 77) (v := ?_) (a' := ?_) #[true, true, true, true, true, true, true, true, true, true, true, true, true, true, false, false, false, false, false, false, false, false, false, false] rfl rfl (by kernel_rfl) (fun _ _ _ h => h) (Or.inl ⟨by rfl, ?_⟩) hHeld ?_ ?_
              rotate_left
              · rintro w' ⟨s0, s1, s2, s3, s4, s5, s6⟩
                go_simp
                with_reducible rfl
              rotate_left
              · simp only [Act.put, List.setIfInBounds_toArray, List.set_cons_zero, List.set_cons_succ, i64_w, i32_w]
                rfl
              refine pure_ (i := 15) (N := some 79) (v := ?_) (a' := ?_) #[true, true, true, true, true, true, true, true, true, true, true, true, true, true, false, true, false, false, false, false, false, false, false, false] rfl rfl (by kernel_rfl) (fun _ _ _ h => h) (Or.inl ⟨by rfl, ?_⟩) ?_ ?_
              rotate_left
              · intro w'
                go_simp
                with_reducible rfl
              rotate_left
              · simp only [Act.put, List.setIfInBounds_toArray, List.set_cons_zero, List.set_cons_succ, i64_w, i32_w]
                rfl
              refine pure_ (i := 16) (N := some 80) (v := ?_) (a' := ?_) #[true, true, true, true, true, true, true, true, true, true, true, true, true, true, false, true, true, false, false, false, false, false, false, false] rfl rfl (by kernel_rfl) (fun _ _ _ h => h) (Or.inl ⟨by rfl, ?_⟩) ?_ ?_
              rotate_left
              · intro w'
                go_simp
                with_reducible rfl
              rotate_left
              · simp only [Act.put, List.setIfInBounds_toArray, List.set_cons_zero, List.set_cons_succ, i64_w, i32_w]
                rfl
              refine pure_ (i := 17) (N := some 81) (v := ?_) (a' := ?_) #[true, true, true, true, true, true, true, true, true, true, true, true, true, true, false, true, true, true, false, false, false, false, false, false] rfl rfl (by kernel_rfl) (fun _ _ _ h => h) (Or.inl ⟨by rfl, ?_⟩) ?_ ?_
              rotate_left
              · intro w'
                go_simp
                with_reducible rfl
              rotate_left
              · simp only [Act.put, List.setIfInBounds_toArray, List.set_cons_zero, List.set_cons_succ, i64_w, i32_w]
                rfl
              refine pure_ (i := 18) (N := some 82) (v := ?_) (a' := ?_) #[true, true, true, true, true, true, true, true, true, true, true, true, true, true, false, true, true, true, true, false, false, false, false, false] rfl rfl (by kernel_rfl) (fun _ _ _ h => h) (Or.inl ⟨by rfl, ?_⟩) ?_ ?_
              rotate_left
              · intro w'
                go_simp
                with_reducible rfl
              rotate_left
              · simp only [Act.put, List.setIfInBounds_toArray, List.set_cons_zero, List.set_cons_succ, i64_w, i32_w]
                rfl
              refine pure_ (i := 19) (N := some 83) (v := ?_) (a' := ?_) #[true, true, true, true, true, true, true, true, true, true, true, true, true, true, false, true, true, true, true, true, false, false, false, false] rfl rfl (by kernel_rfl) (fun _ _ _ h => h) (Or.inl ⟨by rfl, ?_⟩) ?_ ?_
              rotate_left
              · intro w'
                go_simp
                with_reducible rfl
              rotate_left
              · simp only [Act.put, List.setIfInBounds_toArray, List.set_cons_zero, List.set_cons_succ, i64_w, i32_w]
                rfl
              refine take_ (i := 20) (N := some 84) (v := ?_) (a' := ?_) #[true, true, true, true, true, true, true, true, true, true, true, true, true, true, false, true, true, true, true, true, true, false, false, false] rfl rfl (by kernel_rfl) (fun _ _ _ h => h) (Or.inl ⟨by rfl, ?_⟩) hHeld ?_ ?_
              rotate_left
              · rintro w' ⟨s0, s1, s2, s3, s4, s5, s6⟩
                go_simp
                with_reducible rfl
              rotate_left
              · simp only [Act.put, List.setIfInBounds_toArray, List.set_cons_zero, List.set_cons_succ, i64_w, i32_w]
                rfl
              refine one_ (i := 14) (N := some 78) #[true, true, true, true, true, true, true, true, true, true, true, true, true, true, true, true, true, true, true, true, true, false, false, false] rfl rfl (by kernel_rfl) (by decide) (fun K hK => ?_)
              refine goes_ Tryd.func15 (by kernel_rfl) rfl #[.pointer (some ⟨s, 0, none⟩), .string (rd_T32 L (i : Int)).f0] (by rfl) rfl rfl (by (try simp only [List.map_toArray, List.map_cons, List.map_nil]); first | done | rfl) ?_
              refine (inv_stands (rd_T32 L (i : Int)).f0 (HI9.out.below (below_step HW.out (Below.refl _ _).drew)) HS0.out).mono ?_
              rintro e w8 ⟨he, hb⟩
              rw [HST.out] at he
              subst he
              have HV8 := Aside0.mk (below_step (below_step HW.out (Below.refl _ _).drew) hb)
              refine ⟨_, rfl, ?_⟩
              refine hK.out _ _ (HF w8 (Kd.C_below HC.out (below_step HI9.out.b0 HV8.out))) (fun hHeld => ?_)
              clear hK K hb
              refine norm_ (a' := ?_) ?_ ?_
              rotate_left
              · show Act.put _ (some 78) _ = _
                simp only [Act.put, List.setIfInBounds_toArray, List.set_cons_zero, List.set_cons_succ, i64_w, i32_w]
                rfl
              refine one_ (i := 21) (N := some 85) #[true, true, true, true, true, true, true, true, true, true, true, true, true, true, true, true, true, true, true, true, true, true, false, false] rfl rfl (by kernel_rfl) (by decide) (fun K hK => ?_)
              refine goes_ Tryd.func15 (by kernel_rfl) rfl #[.pointer (some ⟨b, 0, none⟩), .string (rd_T32 L (i : Int)).f0] (by rfl) rfl rfl (by (try simp only [List.map_toArray, List.map_cons, List.map_nil]); first | done | rfl) ?_
              refine (inv_stands (rd_T32 L (i : Int)).f0 (HR9.out.below HV8.out) HS0.out).mono ?_
              rintro e w9 ⟨he, hb⟩
              subst he
              have HV9 := Aside0.mk (below_step HV8.out hb)
              refine ⟨_, rfl, ?_⟩
              refine hK.out _ _ (HF w9 (Kd.C_below HC.out (below_step HI9.out.b0 HV9.out))) (fun hHeld => ?_)
              clear hK K hb
              refine norm_ (a' := ?_) ?_ ?_
              rotate_left
              · show Act.put _ (some 85) _ = _
                simp only [Act.put, List.setIfInBounds_toArray, List.set_cons_zero, List.set_cons_succ, i64_w, i32_w]
                rfl
              refine pure_ (i := 22) (N := some 86) (v := ?_) (a' := ?_) #[true, true, true, true, true, true, true, true, true, true, true, true, true, true, true, true, true, true, true, true, true, true, true, false] rfl rfl (by kernel_rfl) (fun _ _ _ h => h) (Or.inl ⟨by rfl, ?_⟩) ?_ ?_
              rotate_left
              · intro w'
                go_simp
                with_reducible rfl
              rotate_left
              · simp only [Act.put, List.setIfInBounds_toArray, List.set_cons_zero, List.set_cons_succ, i64_w, i32_w]
                rfl
              refine pure_ (i := 23) (N := some 87) (v := ?_) (a' := ?_) #[true, true, true, true, true, true, true, true, true, true, true, true, true, true, true, true, true, true, true, true, true, true, true, true] rfl rfl (by kernel_rfl) (fun _ _ _ h => h) (Or.inl ⟨by rfl, ?_⟩) ?_ ?_
              rotate_left
              · intro w'
                go_simp
                with_reducible rfl
              rotate_left
              · simp only [Act.put, List.setIfInBounds_toArray, List.set_cons_zero, List.set_cons_succ, i64_w, i32_w]
                rfl
              refine done_ (by kernel_rfl) ?_
              go_wp2
              go_roundg g
              case measure => exact Nat.lt_succ_self g
              case rel => exact ⟨i + 1, by first | rfl | go_num | (simp; done), by have := HLT.out; omega, ⟨by have := HG.out; have := HLT.out; omega⟩, ⟨HV9.out⟩⟩
          · have e2 : decide ((i : Int) < (L.length : Int)) = false := decide_eq_false (by omega)
            have e3 : decide (i < L.length) = false := decide_eq_false (by omega)
            clear hlt
            go_wp2
            go_ret
            exact ⟨rfl, below_step HB9.out HW.out⟩
end Go.Proofs.YtbmmedoopjjbkaaDoor.Fin
