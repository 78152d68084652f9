/- FinalRefuses, walked: what is refused leaves all as it is; what is accepted is the last one, and stands. -/
import Derived.Test.YtbmmedoopjjbkaaDoorFinPure2
import Derived.Test.YtbmmedoopjjbkaaDoorFinRow
import Derived.Deep.QuietTactic
import Derived.BigQuiet
import Derived.Deep.RegionWith
import Derived.RegionTactic
import Derived.BigRegion
namespace Go.Proofs.YtbmmedoopjjbkaaDoor.Fin
open Go.RowKit Go.Proofs.YtbmmedoopjjbkaaDoor.H Go.Proofs.YtbmmedoopjjbkaaDoorW.PrintWords Go.Proofs.YtbmmedoopjjbkaaDoorW.PrintLast Go.Proofs.YtbmmedoopjjbkaaDoorW.PrintMore
set_option linter.unusedVariables false
set_option linter.unusedSimpArgs false
attribute [local go_sem] Oper.semAt_some

theorem Inv.join {wS wa w : World} {F : Nat → Prop} {b : Nat} {L : List S32} (h1 : Below wS.heap.size wS wa) (hF : ∀ k, F k → no k ∨ wS.heap.size ≤ k) (h2 : Inv wa F w b L) : Inv wS no w b L := by
  obtain ⟨G, g1, g2, g3⟩ := h2
  refine ⟨G, g1, fun k hk => ?_, (KeepF.of_below h1).trans hF g3⟩
  rcases g2 k hk with h | h
  · exact hF k h
  · exact .inr (Nat.le_trans h1.size h)
theorem cells_new7 (W : World) (v : S32) : ∀ j u, (vcells v).toList[j]? = some u → (W.alloc (.cells #[.string v.f0, .string v.f1, .string v.f2, .int .i64 v.f3, .int .i64 v.f4, .bool v.f5, .string v.f6] 32 (0, 0))).cell? ((⟨W.heap.size, 0, none⟩ : Addr).add j) = some u := by
  intro j u h
  have e := blk_new W (.cells #[.string v.f0, .string v.f1, .string v.f2, .int .i64 v.f3, .int .i64 v.f4, .bool v.f5, .string v.f6] 32 (0, 0))
  have ha : (⟨W.heap.size, 0, none⟩ : Addr).add j = ⟨W.heap.size, j, none⟩ := by unfold Addr.add; split <;> simp_all
  rw [ha]
  exact (blk_cell e j).trans (by simpa [vcells] using h)
theorem vcells_one (v : S32) : ∀ u ∈ (vcells v).toList, u.oneCell' = true := by
  intro u h
  simp only [vcells, List.mem_cons, List.not_mem_nil, or_false] at h
  rcases h with rfl | rfl | rfl | rfl | rfl | rfl | rfl <;> rfl
/-- A row of the call's own was grown: the register beside it. -/
theorem reg_beside {w0 wa w5 V wb : World} {F : Nat → Prop} {b : Nat} {L : List S32} {o : Obj} {ob : Option Nat} (h : Inv wa F w5 b L) (hF : ∀ k, F k → no k ∨ w0.heap.size ≤ k) (h0 : Below w0.heap.size w0 wa) (hV : Below w5.heap.size w5 V)
    (hob : ∀ g, ob = some g → ¬ F g ∧ g < wa.heap.size ∧ w0.heap.size ≤ g) (hg : (V.alloc o).grownBy wb ob) : Inv w0 no wb b L := by
  have hj := (Inv.join h0 hF h).below hV
  have hbV := hj.b0
  obtain ⟨G, g1, g2, g3⟩ := h
  have hs : wa.heap.size ≤ w5.heap.size := g3.1.size
  have hlt : ∀ k, G k → k < w5.heap.size := by obtain ⟨_, _, _, _, _, _, _, _, h⟩ := g1; exact h.lt
  have hl2 : ∀ k, k < w5.heap.size → some k ≠ ob → wb.heap[k]? = w5.heap[k]? := fun k hk hne => (hg.block k (by have := hV.size; have : (V.alloc o).heap.size = V.heap.size + 1 := by simp
                                                                                                                omega) hne).trans ((Below.heap_alloc V o k (Nat.lt_of_lt_of_le hk hV.size)).trans (hV.block k hk))
  have hgb : ∀ k, G k → some k ≠ ob := fun k hk e => by
    obtain ⟨h1, h2, h3⟩ := hob k e.symm
    rcases g2 k hk with h | h
    · exact h1 h
    · omega
  have hsz : w5.heap.size ≤ wb.heap.size := by
    have := hg.size
    have h2 : (V.alloc o).heap.size = V.heap.size + 1 := by simp
    have := hV.size
    omega
  refine ⟨G, g1.kept (fun k hk => hl2 k (hlt k hk) (hgb k hk)) hsz, fun k hk => ?_, KeepF.of_below (((below_alloc hbV o)).grown hg (by have := (below_alloc hbV o).size; exact this) (fun k hk => (hob k hk).2.2))⟩
  rcases g2 k hk with h | h
  · exact hF k h
  · exact .inr (Nat.le_trans h0.size h)
theorem row_beside {wa w5 V wb : World} {o : Obj} {base' : Nat} {v v2 : Value} {n n2 : Nat} {xs xs2 : List Value} (h : V.ownsRow w5.heap.size 32 7 v n xs) (ha : wa.ownsRow base' 32 7 v2 n2 xs2) (hs : wa.heap.size ≤ w5.heap.size) (hg : (V.alloc o).grownBy wb v2.ownBlock) : wb.ownsRow w5.heap.size 32 7 v n xs := by
  refine own_move h (fun k hk => (hg.block k ?_ ?_).trans (Below.heap_alloc V o k (h.lt k hk).2))
  · have h1 := (h.lt k hk).2
    have h2 : (V.alloc o).heap.size = V.heap.size + 1 := by simp
    omega
  · intro e
    have h1 := (ha.lt k e.symm).2
    have h2 := (h.lt k hk).1
    omega
theorem refuses_ok {L : List S32} {v : S32} (hg : Good L) (hd : dec L v = 0) : step L v = L ++ [v] ∧ val (L ++ [v]) v.f1 v.f2 = (v.f3, true) ∧ st (L ++ [v]) v.f0 = true := by
  have e : step L v = L ++ [v] := by unfold step; rw [if_pos hd]
  have hc : cur (L ++ [v]) v.f1 v.f2 = some v := by rw [cur_snoc, if_pos ⟨rfl, rfl⟩]
  refine ⟨e, by unfold val; rw [hc], st_cur (e ▸ good_step hg v) (by simp) hc⟩
set_option maxRecDepth 100000 in
set_option maxHeartbeats 4000000 in
theorem FinalRefuses_calls (A0 : Option Addr) (c0 : Nat) (l0 : List S32) (w : World) (hr0 : Kd.C k32 w A0 l0.length l0) (hc0 : l0.length ≤ c0) (hf0 : ∀ v ∈ l0, Fits v) :
    Calls Tryd.prog 6 #[.slice A0 l0.length c0] w fun e w' => e = .returned (.bool true) ∧ Below w.heap.size w w' := by
  obtain ⟨i0, hi, hz0, hz1, hz2⟩ := info_parts info32
  obtain ⟨r, h60, hfew⟩ := few_calls A0 c0 l0 60 w hr0 hc0
  have HR0 := Aside0.mk hr0
  have HF0 := Aside0.mk hf0
  have HB := Aside0.mk (Below.refl w.heap.size w)
  clear hr0 hc0 hf0
  cases r with
  | false =>
    clear h60
    go_enter Tryd.func6, Tryd.ntmps6
    go_wp2_with (first | ((with_reducible refine gate_dst (N := 13) rfl ?_); (try (refine gate_guard (by rfl) ?_; dsimp only)); refine goesL_ (some 13) rfl rfl Tryd.func9 (by kernel_rfl) rfl #[] rfl (by (try simp only [List.map_toArray, List.map_cons, List.map_nil]); first | done | rfl) ?_; refine (head_calls _).mono ?_; rintro e wh ⟨rfl, hb⟩; have HB1 := Aside0.mk (below_step HB.out hb); clear hb HB; have HB := HB1; clear HB1; refine ⟨_, rfl, ?_⟩) | ((with_reducible refine gate_dst (N := 15) rfl ?_); (try (refine gate_guard (by rfl) ?_; dsimp only)); refine goesL_ (some 15) rfl rfl Tryd.func10 (by kernel_rfl) rfl #[.slice A0 l0.length c0, .int .i64 60] rfl (by (try simp only [List.map_toArray, List.map_cons, List.map_nil]); first | done | rfl) ?_; refine (hfew _ (Kd.C_below HR0.out HB.out)).mono ?_; rintro e w2 ⟨rfl, hb⟩; have HB1 := Aside0.mk (below_step HB.out hb); clear hb HB; have HB := HB1; clear HB1; refine ⟨_, rfl, ?_⟩))
    go_ret
    exact ⟨rfl, HB.out⟩
  | true =>
    have HL60 := Aside0.mk (h60 rfl)
    clear h60
    go_enter Tryd.func6, Tryd.ntmps6
    go_wp2_with (first | ((with_reducible refine gate_dst (N := 13) rfl ?_); (try (refine gate_guard (by rfl) ?_; dsimp only)); refine goesL_ (some 13) rfl rfl Tryd.func9 (by kernel_rfl) rfl #[] rfl (by (try simp only [List.map_toArray, List.map_cons, List.map_nil]); first | done | rfl) ?_; refine (head_calls _).mono ?_; rintro e wh ⟨rfl, hb⟩; have HB1 := Aside0.mk (below_step HB.out hb); clear hb HB; have HB := HB1; clear HB1; refine ⟨_, rfl, ?_⟩) | ((with_reducible refine gate_dst (N := 15) rfl ?_); (try (refine gate_guard (by rfl) ?_; dsimp only)); refine goesL_ (some 15) rfl rfl Tryd.func10 (by kernel_rfl) rfl #[.slice A0 l0.length c0, .int .i64 60] rfl (by (try simp only [List.map_toArray, List.map_cons, List.map_nil]); first | done | rfl) ?_; refine (hfew _ (Kd.C_below HR0.out HB.out)).mono ?_; rintro e w2 ⟨rfl, hb⟩; have HB1 := Aside0.mk (below_step HB.out hb); clear hb HB; have HB := HB1; clear HB1; refine ⟨_, rfl, ?_⟩) | ((with_reducible refine gate_dst (N := 18) rfl ?_); (try (refine gate_guard (by rfl) ?_; dsimp only)); refine goesL_ (some 18) rfl rfl Tryd.func11 (by kernel_rfl) rfl #[] rfl (by (try simp only [List.map_toArray, List.map_cons, List.map_nil]); first | done | rfl) ?_; refine (inv_new _).mono ?_; rintro e w3 ⟨b, rfl, hs, hls⟩; have HS := Aside0.mk hs; have HBn := HB; clear hs hls; refine ⟨_, rfl, ?_⟩))
    go_loopg [5] (l0.length + 1) (fun g v W => ∃ i : Nat, v = .int .i64 i ∧ i ≤ l0.length ∧ Aside0 (l0.length - i < g) ∧ Aside0 (Inv w2 no W b ((l0.take i).foldl step [])))
    case atStart => exact ⟨0, rfl, Nat.zero_le _, ⟨by omega⟩, ⟨HS.out⟩⟩
    case round =>
      obtain ⟨i, rfl, hi1, HG, HI⟩ := hrel
      obtain ⟨g, rfl⟩ : ∃ g, gk = g + 1 := ⟨gk - 1, by have := HG.out; omega⟩
      have HBr := Aside0.mk (below_step HBn.out HI.out.b0)
      by_cases hlt : i < l0.length
      · have e2 : decide ((i : Int) < (l0.length : Int)) = true := decide_eq_true (by omega)
        have e3 : decide (i < l0.length) = true := decide_eq_true (by omega)
        obtain ⟨ad0, rfl, x0, x1, x2, x3, x4, x5, x6⟩ := at_T32 (Kd.C_below HR0.out HBr.out) (i : Int) (by omega) (by omega)
        simp only [Int.toNat_natCast] at x0 x1 x2 x3 x4 x5 x6
        have p0 : (0 ≤ (i : Int)) = True := eq_true (by omega)
        have p2 : ((i : Int) < (l0.length : Int)) = True := eq_true (by omega)
        have hw : wrap64 ((i : Int) + 1) = (i : Int) + 1 := by unfold wrap64; have := HL60.out; omega
        have HNX := Aside0.mk (fold_take l0 [] i hlt)
        obtain ⟨L, hL⟩ : ∃ L, (l0.take i).foldl step [] = L := ⟨_, rfl⟩
        have HLn : Aside0 (L.length ≤ 60) := ⟨by have h1 := fold_len (l0.take i) []; rw [hL, List.length_take] at h1; simp only [List.length_nil] at h1; have := HL60.out; omega⟩
        rw [hL] at HI HNX
        have HGD := Aside0.mk HI.out.good
        have HFT := Aside0.mk (HF0.out _ (by rw [rd_get l0 i hlt]; exact List.getElem_mem hlt : (rd_T32 l0 (i : Int)) ∈ l0))
        have HLT := Aside0.mk hlt
        clear hlt hL
        go_wp2_with (first | ((with_reducible refine gate_dst (N := 27) rfl ?_); (try (refine gate_guard (by rfl) ?_; dsimp only)); refine goesL_ (some 27) rfl rfl Tryd.func20 (by kernel_rfl) rfl #[.pointer (some ⟨b, 0, none⟩)] rfl (by (try simp only [List.map_toArray, List.map_cons, List.map_nil]); first | done | rfl) ?_; refine (inv_list (HI.out.below (below_alloc (Below.refl _ _) _)) (by have := HLn.out; omega)).mono ?_; rintro e wl ⟨vl, rfl, ho, hb⟩; have HO := Aside0.mk ho; have HZ := Aside0.mk (own_move (World.ownsRow_lit (base := w.heap.size) (e := 32) (size := 7) wr #[] 0 HBr.out.size (by decide) rfl) (fun k hk => hb.block k (by have := (World.ownsRow_lit (base := w.heap.size) (e := 32) (size := 7) wr #[] 0 HBr.out.size (by decide) rfl).lt k hk; exact this.2))); have HW := Aside0.mk (below_step (below_alloc (Below.refl _ wr) _) hb); clear ho hb; refine ⟨_, rfl, ?_⟩) | (at_builtin; refine wpList_append_rows _ rfl (.tmp 25) (.tmp 27) 22 rfl w.heap.size _ 32 i0 _ 7 88 Tryd.underlying22 hi hz0 hz1 hz2 rfl (by decide) (.slice (some ⟨wr.heap.size, 0, none⟩) 0 0) 0 [] rfl HZ.out _ L.length (cellsL L) rfl HO.out (cellsL_one L) (by have := HLn.out; unfold maxLen; omega) (by have := HLn.out; omega) (Nat.le_trans HBr.out.size HW.out.size) ?_; intro va wa ho hg hat; obtain ⟨A2, c2, rfl⟩ := own_slice ho; have ho2 : wa.ownsRow w.heap.size 32 7 (.slice A2 L.length c2) L.length (cellsL L) := (by simpa using ho); have HA2 := Aside0.mk ho2; have HOB : Aside0 (∀ g, (Value.slice A2 L.length c2).ownBlock = some g → wr.heap.size ≤ g) := ⟨by intro g hgg; have hat2 : (Value.slice A2 L.length c2).ownBlock = some wr.heap.size ∨ (Value.slice A2 L.length c2).ownBlock = some wl.heap.size := (by simpa [Value.ownBlock] using hat); have := HW.out.size; rcases hat2 with h | h <;> rw [h] at hgg <;> have := Option.some.inj hgg <;> omega⟩; have HWa := Aside0.mk (HW.out.grown hg HW.out.size (fun k hk => by have : some wr.heap.size = some k := hk; have := Option.some.inj this; omega)); have HBa := Aside0.mk (below_step HBr.out HWa.out); clear ho hg hat ho2 HZ HO HW; clear x0 x1 x2 x3 x4 x5 x6; obtain ⟨ad1, hA1, x0, x1, x2, x3, x4, x5, x6⟩ := at_T32 (Kd.C_below HR0.out HBa.out) (i : Int) (Int.natCast_nonneg i) (by have := HLT.out; omega); cases hA1; simp only [Int.toNat_natCast] at x0 x1 x2 x3 x4 x5 x6; simp only [Nat.zero_add]))
        obtain ⟨F, hs, hFlt, hF1⟩ := HI.out.resnap HWa.out
        have HSa := Aside0.mk hs
        have HF1 := Aside0.mk hF1
        have HFN : Aside0 (∀ g, (Value.slice A2 L.length c2).ownBlock = some g → ¬ F g) := ⟨fun g hg hf => by have := HOB.out g hg; have := hFlt g hf; omega⟩
        clear hs hFlt hF1
        obtain ⟨nv, sv, hval⟩ : ∃ nv sv, val L (rd_T32 l0 (i : Int)).f1 (rd_T32 l0 (i : Int)).f2 = (nv, sv) := ⟨_, _, rfl⟩
        have hv : ∀ n : Nat, Calls Tryd.prog 17 #[.pointer (some ⟨b, 0, none⟩), .string (rd_T32 l0 (i : Int)).f1, .string (rd_T32 l0 (i : Int)).f2] (wa.drewN n) fun e w' => e = .returned (.tuple #[.int .i64 nv, .bool sv]) ∧ w' = wa.drewN n := fun n => by
          have := inv_value (rd_T32 l0 (i : Int)).f1 (rd_T32 l0 (i : Int)).f2 (HSa.out.below (pw_below_drewN (Below.refl _ _) n)) HFT.out.2.1 HFT.out.2.2
          rw [hval] at this
          exact this
        go_quiet ((go_at_call 17; exact Calls.quiet_of_same (hv _)))
        clear hv
        have HVL := Aside0.mk hval
        clear hval
        obtain ⟨L', hL'⟩ : ∃ L', step L (rd_T32 l0 (i : Int)) = L' := ⟨_, rfl⟩
        have HLs := Aside0.mk hL'
        have HLm : Aside0 (L'.length ≤ 61) := ⟨by have := step_len L (rd_T32 l0 (i : Int)); have := HLn.out; rw [← hL']; omega⟩
        obtain ⟨cd, hcd⟩ : ∃ cd, dec L (rd_T32 l0 (i : Int)) = cd := ⟨_, rfl⟩
        have HCD := Aside0.mk hcd
        clear hL' hcd
        go_wp2_with (first | ((with_reducible refine gate_dst (N := 49) rfl ?_); (try (refine gate_guard (by rfl) ?_; dsimp only)); refine goesL_ (some 49) rfl rfl Tryd.func13 (by kernel_rfl) rfl #[.pointer (some ⟨b, 0, none⟩), .agg (vcells (rd_T32 l0 (i : Int)))] rfl (by (try simp only [List.map_toArray, List.map_cons, List.map_nil]); first | done | rfl) ?_; refine (inv_decide (rd_T32 l0 (i : Int)) (HSa.out.below (pw_below_drewN (Below.refl _ _) _)) (by have := HLn.out; omega)).mono ?_; rintro e w5 ⟨he, hr⟩; rw [HCD.out] at he; subst he; rw [HLs.out] at hr; have HI5 := Aside0.mk hr; clear hr; refine ⟨_, rfl, ?_⟩) | ((with_reducible refine gate_dst (N := 51) rfl ?_); (try (refine gate_guard (by rfl) ?_; dsimp only)); refine goesL_ (some 51) rfl rfl Tryd.func20 (by kernel_rfl) rfl #[.pointer (some ⟨b, 0, none⟩)] rfl (by (try simp only [List.map_toArray, List.map_cons, List.map_nil]); first | done | rfl) ?_; refine (inv_list HI5.out (by have := HLm.out; omega)).mono ?_; rintro e w6 ⟨vl, rfl, ho, hb⟩; obtain ⟨A3, c3, rfl⟩ := own_slice ho; have HO3 := Aside0.mk ho; have HB6 := Aside0.mk hb; have HI6 := Aside0.mk (HI5.out.below hb); clear ho hb; have HBw6 := Aside0.mk (keep_below HBa.out (fun k hk => by rcases HF1.out k hk with h | h; exact h.elim; exact Nat.le_trans HBn.out.size h) HI6.out.keep); clear x0 x1 x2 x3 x4 x5 x6; obtain ⟨ad1, hA1, x0, x1, x2, x3, x4, x5, x6⟩ := at_T32 (Kd.C_below HR0.out HBw6.out) (i : Int) (Int.natCast_nonneg i) (by have := HLT.out; omega); cases hA1; simp only [Int.toNat_natCast] at x0 x1 x2 x3 x4 x5 x6; refine ⟨_, rfl, ?_⟩))
        obtain ⟨mv, tv, hval⟩ : ∃ mv tv, val L' (rd_T32 l0 (i : Int)).f1 (rd_T32 l0 (i : Int)).f2 = (mv, tv) := ⟨_, _, rfl⟩
        have hv : ∀ n : Nat, Calls Tryd.prog 17 #[.pointer (some ⟨b, 0, none⟩), .string (rd_T32 l0 (i : Int)).f1, .string (rd_T32 l0 (i : Int)).f2] (w6.drewN n) fun e w' => e = .returned (.tuple #[.int .i64 mv, .bool tv]) ∧ w' = w6.drewN n := fun n => by
          have := inv_value (rd_T32 l0 (i : Int)).f1 (rd_T32 l0 (i : Int)).f2 (HI6.out.below (pw_below_drewN (Below.refl _ _) n)) HFT.out.2.1 HFT.out.2.2
          rw [hval] at this
          exact this
        go_quiet ((go_at_call 17; exact Calls.quiet_of_same (hv _)))
        clear hv
        have HVM := Aside0.mk hval
        clear hval
        refine ex_gen (fun V => Below w6.heap.size w6 V) (pw_below_drewN (Below.refl _ _) _) ?_
        rintro V hV
        have HV := Aside0.mk hV
        have HBV := Aside0.mk (below_step HBw6.out hV)
        clear hV
        clear x0 x1 x2 x3 x4 x5 x6; obtain ⟨ad1, hA1, x0, x1, x2, x3, x4, x5, x6⟩ := at_T32 (Kd.C_below HR0.out HBV.out) (i : Int) (Int.natCast_nonneg i) (by have := HLT.out; omega); cases hA1; simp only [Int.toNat_natCast] at x0 x1 x2 x3 x4 x5 x6
        have HAV := Aside0.mk (keep_row HA2.out HFN.out (HI6.out.below HV.out).keep)
        have HOV := Aside0.mk (own_move HO3.out (fun k hk => HV.out.block k (HO3.out.lt k hk).2))
        by_cases h0 : cd = 0
        · have hq : (cd != 0) = false := bne_eq_false_iff_eq.2 h0
          obtain ⟨o1, o2, o3⟩ := refuses_ok HGD.out (HCD.out.trans h0)
          have hLe : L' = L ++ [(rd_T32 l0 (i : Int))] := HLs.out.symm.trans o1
          rw [← hLe] at o2 o3
          rw [o2] at HVM
          obtain ⟨rfl, rfl⟩ : (rd_T32 l0 (i : Int)).f3 = mv ∧ true = tv := by have := HVM.out; exact ⟨(Prod.mk.inj this).1, (Prod.mk.inj this).2⟩
          have HLL : Aside0 (L.length + 1 = L'.length) := ⟨by rw [hLe]; simp⟩
          have HCL : Aside0 (cellsL L' = cellsL L ++ (vcells (rd_T32 l0 (i : Int))).toList) := ⟨by rw [hLe, cellsL_snoc]⟩
          have HST := Aside0.mk o3
          have hqq : ((rd_T32 l0 (i : Int)).f3 != (rd_T32 l0 (i : Int)).f3) = false := bne_eq_false_iff_eq.2 rfl
          clear h0 o1 o2 o3 hLe
          go_wp2_with (first | (at_builtin; refine wpList_append_own_at _ rfl (.tmp 83) (.tmp 88) 22 rfl w.heap.size 32 i0 _ 7 88 Tryd.underlying22 hi hz0 hz1 hz2 rfl (by decide) (.slice A2 L.length c2) L.length (cellsL L) rfl (HAV.out.alloc _) ⟨V.heap.size, 0, none⟩ 1 1 (vcells (rd_T32 l0 (i : Int))).toList rfl rfl (cells_new7 V (rd_T32 l0 (i : Int))) (vcells_one (rd_T32 l0 (i : Int))) (by have := HLn.out; unfold maxLen; omega) (by have := HLn.out; omega) (by have := HBV.out.size; simp; omega) ?_; intro vb wb ho hg hnil hat; obtain ⟨A4, c4, rfl⟩ := own_slice ho; have q1 : Below w2.heap.size w2 wa := below_step HI.out.b0 HWa.out; have q2 : ∀ g, (Value.slice A2 L.length c2).ownBlock = some g → ¬ F g ∧ g < wa.heap.size ∧ w2.heap.size ≤ g := fun g hgg => ⟨HFN.out g hgg, (HA2.out.lt g hgg).2, Nat.le_trans HI.out.b0.size (HOB.out g hgg)⟩; have q3 := reg_beside (w0 := w2) HI6.out HF1.out q1 HV.out q2 hg; have HI7 := Aside0.mk q3; have q4 := row_beside HOV.out HA2.out HI5.out.size hg; have HO7 := Aside0.mk q4; have HBb := Aside0.mk (below_step HBn.out HI7.out.b0); rw [← HCL.out] at ho; rw [HLL.out] at ho ⊢; have HA4 := Aside0.mk ho; clear ho hg hnil hat q1 q2 q3 q4; clear x0 x1 x2 x3 x4 x5 x6; obtain ⟨ad1, hA1, x0, x1, x2, x3, x4, x5, x6⟩ := at_T32 (Kd.C_below HR0.out HBb.out) (i : Int) (Int.natCast_nonneg i) (by have := HLT.out; omega); cases hA1; simp only [Int.toNat_natCast] at x0 x1 x2 x3 x4 x5 x6) | ((with_reducible refine gate_dst (N := 91) rfl ?_); (try (refine gate_guard (by rfl) ?_; dsimp only)); refine goesL_ (some 91) rfl rfl Tryd.func19 (by kernel_rfl) rfl #[.slice A4 L'.length c4, .slice A3 L'.length c3] rfl (by (try simp only [List.map_toArray, List.map_cons, List.map_nil]); first | done | rfl) ?_; refine (same_calls A4 A3 c4 c3 L' _ (C_of_cells HA4.out rfl (by have := HLm.out; omega)) (own_cap HA4.out) (C_of_cells HO7.out rfl (by have := HLm.out; omega)) (own_cap HO7.out)).mono ?_; rintro e w7 ⟨rfl, hb⟩; have HB8 := Aside0.mk (below_step HBb.out hb); have HI8 := Aside0.mk (HI7.out.below hb); clear hb; clear x0 x1 x2 x3 x4 x5 x6; obtain ⟨ad1, hA1, x0, x1, x2, x3, x4, x5, x6⟩ := at_T32 (Kd.C_below HR0.out HB8.out) (i : Int) (Int.natCast_nonneg i) (by have := HLT.out; omega); cases hA1; simp only [Int.toNat_natCast] at x0 x1 x2 x3 x4 x5 x6; refine ⟨_, rfl, ?_⟩) | (go_at_call 15; refine (inv_stands (rd_T32 l0 (i : Int)).f0 HI8.out HFT.out.1).mono ?_; rintro e w9 ⟨he, hb⟩; rw [HST.out] at he; subst he; have HB9 := Aside0.mk (below_step HB8.out hb); have HI9 := Aside0.mk (HI8.out.below hb); clear HI8 hb; have HI8 := HI9; clear HI9; clear x0 x1 x2 x3 x4 x5 x6; obtain ⟨ad1, hA1, x0, x1, x2, x3, x4, x5, x6⟩ := at_T32 (Kd.C_below HR0.out HB9.out) (i : Int) (Int.natCast_nonneg i) (by have := HLT.out; omega); cases hA1; simp only [Int.toNat_natCast] at x0 x1 x2 x3 x4 x5 x6))
          go_roundg g
          case measure => exact Nat.lt_succ_self g
          case rel => exact ⟨i + 1, by first | rfl | go_num | (simp; done), by have := HLT.out; omega, ⟨by have := HG.out; have := HLT.out; omega⟩, ⟨by rw [HNX.out, HLs.out]; exact HI8.out⟩⟩
        · have hq : (cd != 0) = true := bne_iff_ne.2 h0
          obtain rfl : L' = L := by rw [← HLs.out]; unfold step; rw [if_neg (by rw [HCD.out]; exact h0)]
          obtain ⟨rfl, rfl⟩ : mv = nv ∧ tv = sv := by have := HVM.out.symm.trans HVL.out; exact ⟨(Prod.mk.inj this).1, (Prod.mk.inj this).2⟩
          have hqq : (mv != mv) = false := bne_eq_false_iff_eq.2 rfl
          have hqs : (tv != tv) = false := bne_eq_false_iff_eq.2 rfl
          clear h0
          go_wp2_with ((with_reducible refine gate_dst (N := 71) rfl ?_); (try (refine gate_guard (by rfl) ?_; dsimp only)); refine goesL_ (some 71) rfl rfl Tryd.func19 (by kernel_rfl) rfl #[.slice A2 L'.length c2, .slice A3 L'.length c3] rfl (by (try simp only [List.map_toArray, List.map_cons, List.map_nil]); first | done | rfl) ?_; refine (same_calls A2 A3 c2 c3 L' _ (C_of_cells HAV.out rfl (by have := HLm.out; omega)) (own_cap HAV.out) (C_of_cells HOV.out rfl (by have := HLm.out; omega)) (own_cap HOV.out)).mono ?_; rintro e w7 ⟨rfl, hb⟩; have HB8 := Aside0.mk (below_step HV.out hb); clear hb; refine ⟨_, rfl, ?_⟩)
          go_roundg g
          case measure => exact Nat.lt_succ_self g
          case rel => exact ⟨i + 1, by first | rfl | go_num | (simp; done), by have := HLT.out; omega, ⟨by have := HG.out; have := HLT.out; omega⟩, ⟨by rw [HNX.out, HLs.out]; exact (Inv.join (below_step HI.out.b0 HWa.out) HF1.out HI6.out).below HB8.out⟩⟩
      · have e2 : decide ((i : Int) < (l0.length : Int)) = false := decide_eq_false (by omega)
        have e3 : decide (i < l0.length) = false := decide_eq_false (by omega)
        clear hlt
        go_wp2
        go_ret
        exact ⟨rfl, HBr.out⟩
end Go.Proofs.YtbmmedoopjjbkaaDoor.Fin
