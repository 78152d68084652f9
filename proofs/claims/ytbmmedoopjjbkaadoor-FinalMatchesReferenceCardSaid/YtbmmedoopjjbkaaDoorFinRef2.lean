/- The reference's Stands and Decide. -/
import Derived.Test.YtbmmedoopjjbkaaDoorFinRef1
import Derived.Test.YtbmmedoopjjbkaaDoorFinName
import Derived.Test.YtbmmedoopjjbkaaDoorFinRow6
import Derived.Deep.Onto
namespace Go.Proofs.YtbmmedoopjjbkaaDoor.Fin
open Go.RowKit Go.Proofs.YtbmmedoopjjbkaaDoor.H Go.Proofs.YtbmmedoopjjbkaaDoorW.PrintWords Go.Proofs.YtbmmedoopjjbkaaDoorW.PrintLast Go.Proofs.YtbmmedoopjjbkaaDoorW.PrintMore
set_option linter.unusedVariables false
set_option linter.unusedSimpArgs false
attribute [local go_sem] Oper.semAt_some

section
variable {P : Program} {ops : Array Oper} {o : Oper} {a : Act} {Q : Exit → Act → World → Prop} {Kc : Act → World → Prop}
theorem st_build {W : World} (n : Nat) (cs : Array Value) (hcs : cs.size = n * 7) (hn : n ≤ 1000) (hw : Region.wanted o (yielded ops a.tmps) = true) {N : Tmp} (hd : o.dst = some N)
    (hrun : (execOp a.eval o).run P W = .ok (.value (.slice (some ⟨W.heap.size, 0, none⟩) n n)) (W.alloc (.cells cs 32 (0, 0))))
    (h : ∀ g w1, w1.ownsRow W.heap.size 32 7 (.slice (some ⟨g, 0, none⟩) n n) n cs.toList → Below W.heap.size W w1 → Kc (a.put (some N) (.slice (some ⟨g, 0, none⟩) n n)) w1) :
    if Region.wanted o (yielded ops a.tmps) = true then Oper.wp P o a W Kc Q else Kc (a.put (some N) undef) W := by
  rw [← hd] at h ⊢
  exact event_step hw hrun (h _ _ (World.ownsRow_lit W cs n (Nat.le_refl _) (by unfold maxLen; omega) hcs) (below_alloc (Below.refl _ _) _))
theorem st_append {W : World} (hw : Region.wanted o (yielded ops a.tmps) = true) {N : Tmp} (hd : o.dst = some N) (s x : Operand) (t : TypeId)
    (ho : o.op = .call { callee := .builtin .append, args := #[s, x], argTypes := #[t, t] }) (base base' : Nat) (e : TypeId) (i : TypeInfo) (z : Value) (size bytes : Nat) (ht : P.underlying t = some (.slice e)) (hi : P.info? e = some i) (hz : i.zero = some z)
    (hsize : i.size = size) (hby : i.bytes = bytes) (hzs : z.cells.size = size) (hsz : 0 < size)
    (v : Value) (n : Nat) (xs : List Value) (hs : a.eval s = v) (hown : W.ownsRow base e size v n xs)
    (vx : Value) (m : Nat) (news : List Value) (hx : a.eval x = vx) (hsrc : W.ownsRow base' e size vx m news) (h1 : ∀ u ∈ news, u.oneCell' = true)
    (h63 : n + m ≤ maxLen) (hbytes : (n + m) * bytes ≤ 140737488355328) (hbase : base ≤ W.heap.size)
    (h : ∀ v' w', w'.ownsRow base e size v' (n + m) (xs ++ news) → W.grownBy w' v.ownBlock → (v'.ownBlock = v.ownBlock ∨ v'.ownBlock = some W.heap.size) → Kc (a.put (some N) v') w') :
    if Region.wanted o (yielded ops a.tmps) = true then Oper.wp P o a W Kc Q else Kc (a.put (some N) undef) W := by
  rw [← hd] at h ⊢
  have hrun : ∃ v1 w1, (Builtin.append_ #[t, t] o.type #[v, vx]).run P W = .ok v1 w1 ∧ w1.ownsRow base e size v1 (n + m) (xs ++ news) ∧ W.grownBy w1 v.ownBlock ∧ (v1.ownBlock = v.ownBlock ∨ v1.ownBlock = some W.heap.size) := by
    have hsrc' := hsrc
    rcases hsrc with ⟨hl, ⟨rfl, rfl⟩ | ⟨g, cap, cur, rfl, hg, hh, r⟩⟩
    · obtain rfl : news = [] := List.length_eq_zero_iff.1 (by omega)
      refine ⟨v, W, ?_, by simpa using hown, World.grownBy.refl W _, .inl rfl⟩
      rcases hown.2 with ⟨rfl, hn⟩ | ⟨g, cap, cur, rfl, _, _, hnc, _⟩
      · simp [Builtin.append_, run_underlying ht, sizeOf, typeInfo, hi, Builtin.lenOf, Builtin.firstCells]
      · simp [Builtin.append_, run_underlying ht, sizeOf, typeInfo, hi, Builtin.lenOf, Builtin.firstCells, hnc, storeCells]
    · obtain ⟨v1, w1, hr, h2, h3, _, h5⟩ := run_append_own_at (P := P) W base t o.type e i z size bytes ht hi hz hsize hby hzs hsz v n xs hown ⟨g, 0, none⟩ m cap news hl (fun j u hj => hsrc'.cells (g := g) rfl j u hj) h1 h63 hbytes hbase
      exact ⟨v1, w1, hr, h2, h3, h5⟩
  obtain ⟨v1, w1, hr1, h2, hg, hat⟩ := hrun
  rw [if_pos hw]
  unfold Oper.wp execOp
  simp only [ho, resolve, invoke, builtin, Sem.run_bind, Sem.run_pure, Result.andThen_ok, List.map_toArray, List.map_cons, List.map_nil, hs, hx, hr1]
  exact h v1 w1 h2 hg hat
end

/-! ### the plain answers -/
theorem dec_bad {L : List S32} {v : S32} (h : vd v = false) : dec L v = 1 := by unfold dec; rw [if_pos h]
theorem dec_twice {L : List S32} {v : S32} (h : vd v = true) (h1 : hasId L v.f0 = true) : dec L v = 9 := by unfold dec; rw [if_neg (by simp [h]), if_pos h1]
theorem dec_order {L : List S32} {v : S32} (h : vd v = true) (h1 : hasId L v.f0 = false) (h2 : late L v = true) : dec L v = 24 := by unfold dec; rw [if_neg (by simp [h]), if_neg (by simp [h1]), if_pos h2]
theorem dec_none {L : List S32} {v : S32} (h : vd v = true) (h1 : hasId L v.f0 = false) (h2 : late L v = false) (h3 : cur L v.f1 v.f2 = none) : dec L v = if v.f6.toList = [] then 0 else 11 := by
  unfold dec; rw [if_neg (by simp [h]), if_neg (by simp [h1]), if_neg (by simp [h2]), h3]
theorem dec_some {L : List S32} {v o : S32} (h : vd v = true) (h1 : hasId L v.f0 = false) (h2 : late L v = false) (h3 : cur L v.f1 v.f2 = some o) : dec L v = if o.f0.toList ≠ v.f6.toList then 12 else if o.f5 then 22 else 0 := by
  unfold dec; rw [if_neg (by simp [h]), if_neg (by simp [h1]), if_neg (by simp [h2]), h3]
theorem step_err {L : List S32} {v : S32} {c : Int} (h : dec L v = c) (hc : c ≠ 0) : step L v = L := by unfold step; rw [if_neg (by rw [h]; exact hc)]
theorem step_ok {L : List S32} {v : S32} (h : dec L v = 0) : step L v = L ++ [v] := by unfold step; rw [if_pos h]
theorem late_last {L : List S32} {v : S32} {m : Nat} (h : L.length = m + 1) : late L v = decide (v.f4 < (rd_T32 L (m : Int)).f4) := by
  have hm : m < L.length := by omega
  have : L.getLast? = some L[m] := by
    rw [List.getLast?_eq_getElem?, h]; exact List.getElem?_eq_getElem hm
  unfold late
  rw [this, rd_get L m hm]
theorem hasId_hit {L : List S32} {i : Nat} (hi : i < L.length) {id : ByteArray} (h : ((rd_T32 L (i : Int)).f0.toList == id.toList) = true) : hasId L id = true := by
  rw [rd_get L i hi] at h
  exact List.any_eq_true.2 ⟨L[i], List.getElem_mem hi, decide_eq_true (toList_inj (beq_iff_eq.1 h))⟩
theorem hasId_step {L : List S32} {i : Nat} (hi : i < L.length) {id : ByteArray} (h : ((rd_T32 L (i : Int)).f0.toList == id.toList) = false) (h1 : hasId (L.take i) id = false) : hasId (L.take (i + 1)) id = false := by
  rw [rd_get L i hi] at h
  rw [List.take_succ_eq_append_getElem hi]
  unfold hasId at h1 ⊢
  rw [List.any_append, h1, Bool.false_or]
  have : L[i].f0 ≠ id := fun e => beq_eq_false_iff_ne.1 h (congrArg ByteArray.toList e)
  simp [this]
theorem st_no {L : List S32} {id : ByteArray} (h : hasId L id = false) : st L id = false := by unfold st; rw [find_none h]
theorem st_hit {L : List S32} (hg : Good L) {i : Nat} (hi : i < L.length) {id : ByteArray} (h : ((rd_T32 L (i : Int)).f0.toList == id.toList) = true) : (ixOf L (rd_T32 L (i : Int)).f1 (rd_T32 L (i : Int)).f2 == (i : Int)) = st L id := by
  have e : (rd_T32 L (i : Int)).f0 = id := toList_inj (beq_iff_eq.1 h)
  rw [rd_get L i hi] at e ⊢
  subst e
  have hm : L[i] ∈ L := List.getElem_mem hi
  unfold st
  rw [find_id hg hm]
  rcases ix_all L (L[i]).f1 (L[i]).f2 with ⟨hc, hx⟩ | ⟨j, hj, hx, hc⟩
  · obtain ⟨o, ho⟩ := cur_some hm
    rw [hc] at ho; cases ho
  · rw [hx]
    simp only [hc]
    by_cases hij : j = i
    · subst hij
      rw [beq_iff_eq.2 rfl]
      exact (beq_iff_eq.2 rfl).symm
    · have h1 : ((j : Int) == (i : Int)) = false := beq_eq_false_iff_ne.2 (by omega)
      rw [h1]
      refine (beq_eq_false_iff_ne.2 (fun e => ?_)).symm
      have e := toList_inj e
      rcases Nat.lt_or_gt_of_ne hij with hlt | hgt
      · exact List.pairwise_iff_getElem.1 hg.2 j i hj hi hlt e
      · exact List.pairwise_iff_getElem.1 hg.2 i j hi hj hgt e.symm

set_option maxRecDepth 100000 in
set_option maxHeartbeats 1000000 in
theorem ref_stands (w : World) (G : Nat → Prop) (b : Nat) (L : List S32) (A : Option Addr) (c : Nat) (id : ByteArray) (h : RefAt w G b L A c) (hn : L.length ≤ 1000000) :
    Calls Tryd.prog 16 #[.pointer (some ⟨b, 0, none⟩), .string id] w fun e w' => e = .returned (.bool (st L id)) ∧ Below w.heap.size w w' := by
  have HR := Aside0.mk h
  have c0 := h.c0
  have HC := Aside0.mk (h.row hn)
  have HN := Aside0.mk hn
  have HGD := Aside0.mk h.good
  obtain ⟨r, hr⟩ : ∃ r, st L id = r := ⟨_, rfl⟩
  have HST := Aside0.mk hr
  rw [hr]
  clear h hn hr
  go_enter Tryd.func16, Tryd.ntmps16
  go_wp2
  go_loopg [5] (L.length + 1) (fun g v5 W => W = w ∧ ∃ i : Nat, v5 = .int .i64 i ∧ i ≤ L.length ∧ Aside0 (L.length - i < g) ∧ Aside0 (hasId (L.take i) id = false))
  case atStart => exact ⟨rfl, 0, rfl, Nat.zero_le _, ⟨by omega⟩, ⟨rfl⟩⟩
  case round =>
    obtain ⟨rfl, i, rfl, hi1, HG, HH⟩ := hrel
    obtain ⟨g, rfl⟩ : ∃ g, gk = g + 1 := ⟨gk - 1, by have := HG.out; omega⟩
    by_cases hlt : i < L.length
    · have e2 : decide ((i : Int) < (L.length : Int)) = true := decide_eq_true (by omega)
      have e3 : decide (i < L.length) = true := decide_eq_true (by omega)
      have p0 : (0 ≤ (i : Int)) = True := eq_true (by omega)
      have p2 : ((i : Int) < (L.length : Int)) = True := eq_true (by omega)
      have hw : wrap64 ((i : Int) + 1) = (i : Int) + 1 := by unfold wrap64; have := HN.out; omega
      have HLT := Aside0.mk hlt
      obtain ⟨ad0, rfl, x0, x1, x2, x3, x4, x5, x6⟩ := at_T32 HC.out (i : Int) (Int.natCast_nonneg i) (by have := HLT.out; omega)
      simp only [Int.toNat_natCast] at x0 x1 x2 x3 x4 x5 x6
      clear hlt
      rcases q1 : ((rd_T32 L (i : Int)).f0.toList == id.toList) with _ | _
      · go_wp2
        go_roundg g
        case measure => exact Nat.lt_succ_self g
        case rel => exact ⟨by first | rfl | simp, i + 1, by first | rfl | go_num | (simp; done), by have := HLT.out; omega, ⟨by have := HG.out; have := HLT.out; omega⟩, ⟨hasId_step HLT.out q1 HH.out⟩⟩
      · have hcmp : (ixOf L (rd_T32 L (i : Int)).f1 (rd_T32 L (i : Int)).f2 == (i : Int)) = r := (st_hit HGD.out HLT.out q1).trans HST.out
        have hv : ∀ n : Nat, Calls Tryd.prog 26 #[.pointer (some ⟨b, 0, none⟩), .string (rd_T32 L (i : Int)).f1, .string (rd_T32 L (i : Int)).f2] (wr.drewN n) fun e w' => e = .returned (.int .i64 (ixOf L (rd_T32 L (i : Int)).f1 (rd_T32 L (i : Int)).f2)) ∧ w' = wr.drewN n := fun n =>
          ref_at _ G b L _ c _ _ (HR.out.below (pw_below_drewN (Below.refl _ _) n)) HN.out
        obtain ⟨ix, hix⟩ : ∃ ix, ixOf L (rd_T32 L (i : Int)).f1 (rd_T32 L (i : Int)).f2 = ix := ⟨_, rfl⟩
        rw [hix] at hv hcmp
        clear hix
        go_wp2
        go_quiet ((go_at_call 26; exact Calls.quiet_of_same (hv _)))
        clear hv
        go_wp2
        go_ret
        exact ⟨rfl, by repeat (first | exact Below.refl _ _ | apply below_drew1 | apply pw_below_drewN)⟩
    · have e2 : decide ((i : Int) < (L.length : Int)) = false := decide_eq_false (by omega)
      have e3 : decide (i < L.length) = false := decide_eq_false (by omega)
      have HE : Aside0 (r = false) := ⟨by rw [← HST.out]; refine st_no ?_; have h := HH.out; rwa [List.take_of_length_le (by omega)] at h⟩
      clear hlt
      go_wp2
      go_ret
      exact ⟨by rw [HE.out]; rfl, Below.refl _ _⟩

theorem vcells_one (v : S32) : ∀ u ∈ (vcells v).toList, u.oneCell' = true := by
  intro u h
  simp only [vcells, List.mem_cons, List.not_mem_nil, or_false] at h
  rcases h with rfl | rfl | rfl | rfl | rfl | rfl | rfl <;> rfl

/-- The register behind a verdict that was accepted: the list is a new row. -/
theorem ref_stored {w V w4 : World} {G : Nat → Prop} {b : Nat} {L : List S32} {A A7 : Option Addr} {c c7 : Nat} {v : S32} (h : RefAt w G b L A c) (hv : Below w.heap.size w V) (hb : Below V.heap.size V w4) (ho : w4.ownsRow V.heap.size 32 7 (.slice A7 (L.length + 1) c7) (L.length + 1) (cellsL L ++ (vcells v).toList)) (hd : dec L v = 0) :
    ∃ G', RefF (w4.setCell ⟨b, 0, none⟩ (.slice A7 (L.length + 1) c7)) G' b (step L v) ∧ (∀ k, G' k → G k ∨ w.heap.size ≤ k) ∧ KeepF (fun k => k = b) w (w4.setCell ⟨b, 0, none⟩ (.slice A7 (L.length + 1) c7)) := by
  have hB := below_step hv hb
  have lb := h.lt b h.lb
  have bb : w4.heap[b]? = w.heap[b]? := hB.block b lb
  have hne : ∀ k, (Value.slice A7 (L.length + 1) c7).ownBlock = some k → V.heap.size ≤ k := own_base ho
  have hs := hv.size
  have hsz : (w4.setCell ⟨b, 0, none⟩ (.slice A7 (L.length + 1) c7)).heap.size = w4.heap.size := by simp
  refine ⟨fun k => k = b ∨ (Value.slice A7 (L.length + 1) c7).ownBlock = some k, ⟨A7, c7, ?_⟩, fun k hk => ?_, ?_, ?_⟩
  · rw [step_ok hd]
    have hlen : (L ++ [v]).length = L.length + 1 := by simp
    exact {
      c0 := by rw [hlen]; exact World.cell?_setCell_same _ _ _ ((World.cell?_of_block (a := ⟨b, 0, none⟩) bb).trans h.c0)
      f0 := by rw [World.frozen?_setCell]; exact (World.frozen?_of_block (a := ⟨b, 0, none⟩) bb).trans h.f0
      lb := .inl rfl
      lt := fun k hk => by
        rw [hsz]
        rcases hk with rfl | hk
        · exact Nat.lt_of_lt_of_le lb hB.size
        · exact (ho.lt k hk).2
      own := by
        rw [hlen, cellsL_snoc]
        exact own_less (own_move ho (fun k hk => Below.heap_setCell w4 ⟨b, 0, none⟩ _ k (by have := hne k hk; intro e; have : k = b := e; omega))) (Nat.zero_le _)
      ob := by
        rw [hlen]
        intro g hg
        have := hne g hg
        exact ⟨by omega, .inr hg⟩
      good := by have := good_step h.good v; rwa [step_ok hd] at this }
  · rcases hk with rfl | hk
    · exact .inl h.lb
    · exact .inr (Nat.le_trans hs (hne k hk))
  · exact (hB.mono (Nat.zero_le _)).setCell (Nat.zero_le _) _
  · intro k hk hkb
    exact (Below.heap_setCell w4 ⟨b, 0, none⟩ _ k hkb).trans (hB.block k hk)
theorem ref_left {w w' : World} {G : Nat → Prop} {b : Nat} {L : List S32} {A : Option Addr} {c : Nat} {v : S32} {k : Int} (h : RefAt w G b L A c) (hb : Below w.heap.size w w') (hd : dec L v = k) (hk : k ≠ 0) :
    ∃ G', RefF w' G' b (step L v) ∧ (∀ k, G' k → G k ∨ w.heap.size ≤ k) ∧ KeepF (fun k => k = b) w w' :=
  ⟨G, by rw [step_err hd hk]; exact ⟨A, c, h.below hb⟩, fun k hk => .inl hk, KeepF.of_below hb⟩

set_option maxRecDepth 100000 in
set_option maxHeartbeats 8000000 in
theorem ref_decide (w : World) (G : Nat → Prop) (b : Nat) (L : List S32) (A : Option Addr) (c : Nat) (v : S32) (h : RefAt w G b L A c) (hf : Fits6 v) (hn : L.length ≤ 1000000) :
    Calls Tryd.prog 14 #[.pointer (some ⟨b, 0, none⟩), .agg (vcells v)] w fun e w' => e = .returned (.int .i64 (dec L v)) ∧ ∃ G', RefF w' G' b (step L v) ∧ (∀ k, G' k → G k ∨ w.heap.size ≤ k) ∧ KeepF (fun k => k = b) w w' := by
  obtain ⟨i0, hi, hz0, hz1, hz2⟩ := info_parts info32
  have HR := Aside0.mk h
  have HF := Aside0.mk hf
  have c0 := h.c0
  have C0 := Aside0.mk h.c0
  have F0 := Aside0.mk h.f0
  have LB := Aside0.mk (h.lt b h.lb)
  have HC := Aside0.mk (h.row hn)
  have HN := Aside0.mk hn
  have HB := Aside0.mk (Below.refl w.heap.size w)
  clear h hf hn
  rcases hvd : vd v with _ | _
  · have HVD := Aside0.mk hvd
    clear hvd
    go_enter Tryd.func14, Tryd.ntmps14
    go_wp2_with (first | ((with_reducible refine gate_dst (N := 3) rfl ?_); refine box_event ?hg (N := 3) ?hd (cs := #[.string v.f0, .string v.f1, .string v.f2, .int .i64 v.f3, .int .i64 v.f4, .bool v.f5, .string v.f6]) (t := 32) ?hr ?_; (case hd => rfl); (case hg => rfl); (case hr => first | (go_simp; done) | (go_simp; rfl)); intro gb hg w1 hbox hb; have HB1 := Aside0.mk (below_step HB.out hb); have BKv := Aside0.mk hbox; clear c0 hbox hg hb; have z0 := (blk_cell BKv.out 0).trans rfl; have z1 := (blk_cell BKv.out 1).trans rfl; have z2 := (blk_cell BKv.out 2).trans rfl; have z3 := (blk_cell BKv.out 3).trans rfl; have z4 := (blk_cell BKv.out 4).trans rfl; have z5 := (blk_cell BKv.out 5).trans rfl; have z6 := (blk_cell BKv.out 6).trans rfl; have c0 := (HB1.out.cell (p := ⟨b, 0, none⟩) LB.out).trans C0.out) | (go_at_call 25; go_loud (refine (valid_ref v HF.out.1 HF.out.2.1 HF.out.2.2.1 HF.out.2.2.2 _).mono ?_; rintro e w2 ⟨he, hb2⟩; rw [HVD.out] at he; subst he; have HB2 := Aside0.mk (below_step HB1.out hb2); have BKv2 := Aside0.mk (blk_below BKv.out hb2); clear z0 z1 z2 z3 z4 z5 z6 c0; clear hb2 HB1 BKv; have BKv := BKv2; clear BKv2; have z0 := (blk_cell BKv.out 0).trans rfl; have z1 := (blk_cell BKv.out 1).trans rfl; have z2 := (blk_cell BKv.out 2).trans rfl; have z3 := (blk_cell BKv.out 3).trans rfl; have z4 := (blk_cell BKv.out 4).trans rfl; have z5 := (blk_cell BKv.out 5).trans rfl; have z6 := (blk_cell BKv.out 6).trans rfl; have c0 := (HB2.out.cell (p := ⟨b, 0, none⟩) LB.out).trans C0.out)))
    go_ret
    exact ⟨by rw [dec_bad HVD.out]; rfl, ref_left HR.out (by repeat (first | exact HB2.out | apply below_drew1 | apply pw_below_drewN)) (dec_bad HVD.out) (by decide)⟩
  have HVD := Aside0.mk hvd
  clear hvd
  go_enter Tryd.func14, Tryd.ntmps14
  go_wp2_with (first | ((with_reducible refine gate_dst (N := 3) rfl ?_); refine box_event ?hg (N := 3) ?hd (cs := #[.string v.f0, .string v.f1, .string v.f2, .int .i64 v.f3, .int .i64 v.f4, .bool v.f5, .string v.f6]) (t := 32) ?hr ?_; (case hd => rfl); (case hg => rfl); (case hr => first | (go_simp; done) | (go_simp; rfl)); intro gb hg w1 hbox hb; have HB1 := Aside0.mk (below_step HB.out hb); have BKv := Aside0.mk hbox; clear c0 hbox hg hb; have z0 := (blk_cell BKv.out 0).trans rfl; have z1 := (blk_cell BKv.out 1).trans rfl; have z2 := (blk_cell BKv.out 2).trans rfl; have z3 := (blk_cell BKv.out 3).trans rfl; have z4 := (blk_cell BKv.out 4).trans rfl; have z5 := (blk_cell BKv.out 5).trans rfl; have z6 := (blk_cell BKv.out 6).trans rfl; have c0 := (HB1.out.cell (p := ⟨b, 0, none⟩) LB.out).trans C0.out) | (go_at_call 25; go_loud (refine (valid_ref v HF.out.1 HF.out.2.1 HF.out.2.2.1 HF.out.2.2.2 _).mono ?_; rintro e w2 ⟨he, hb2⟩; rw [HVD.out] at he; subst he; have HB2 := Aside0.mk (below_step HB1.out hb2); have BKv2 := Aside0.mk (blk_below BKv.out hb2); clear z0 z1 z2 z3 z4 z5 z6 c0; clear hb2 HB1 BKv; have BKv := BKv2; clear BKv2; have z0 := (blk_cell BKv.out 0).trans rfl; have z1 := (blk_cell BKv.out 1).trans rfl; have z2 := (blk_cell BKv.out 2).trans rfl; have z3 := (blk_cell BKv.out 3).trans rfl; have z4 := (blk_cell BKv.out 4).trans rfl; have z5 := (blk_cell BKv.out 5).trans rfl; have z6 := (blk_cell BKv.out 6).trans rfl; have c0 := (HB2.out.cell (p := ⟨b, 0, none⟩) LB.out).trans C0.out)))
  refine wp_gen (fun V => V.heap[gb]? = some (.cells #[.string v.f0, .string v.f1, .string v.f2, .int .i64 v.f3, .int .i64 v.f4, .bool v.f5, .string v.f6] 32 (0, 0)) ∧ Below w.heap.size w V) ⟨BKv.out, (by repeat (first | exact HB2.out | apply below_drew1 | apply pw_below_drewN))⟩ ?_
  clear z0 z1 z2 z3 z4 z5 z6 c0 HB2 BKv
  rintro V ⟨BKv, HV⟩
  replace BKv := Aside0.mk BKv
  replace HV := Aside0.mk HV
  have z0 := (blk_cell BKv.out 0).trans rfl
  have z1 := (blk_cell BKv.out 1).trans rfl
  have z2 := (blk_cell BKv.out 2).trans rfl
  have z3 := (blk_cell BKv.out 3).trans rfl
  have z4 := (blk_cell BKv.out 4).trans rfl
  have z5 := (blk_cell BKv.out 5).trans rfl
  have z6 := (blk_cell BKv.out 6).trans rfl
  have c0 := (HV.out.cell (p := ⟨b, 0, none⟩) LB.out).trans C0.out
  go_loopg [5] (L.length + 1) (fun g v5 W => ∃ i : Nat, v5 = .int .i64 i ∧ i ≤ L.length ∧ Aside0 (L.length - i < g) ∧ Aside0 (Below V.heap.size V W) ∧ Aside0 (hasId (L.take i) v.f0 = false))
  case atStart => exact ⟨0, rfl, Nat.zero_le _, ⟨by omega⟩, ⟨Below.refl _ _⟩, ⟨rfl⟩⟩
  case round =>
    obtain ⟨i, rfl, hi1, HG, HW, HH⟩ := hrel
    obtain ⟨g, rfl⟩ : ∃ g, gk = g + 1 := ⟨gk - 1, by have := HG.out; omega⟩
    clear z0 z1 z2 z3 z4 z5 z6 c0
    have HX := Aside0.mk (below_step HV.out HW.out)
    have BX := Aside0.mk (blk_below BKv.out HW.out)
    clear BKv HV
    have z0 := (blk_cell BX.out 0).trans rfl; have z1 := (blk_cell BX.out 1).trans rfl; have z2 := (blk_cell BX.out 2).trans rfl; have z3 := (blk_cell BX.out 3).trans rfl; have z4 := (blk_cell BX.out 4).trans rfl; have z5 := (blk_cell BX.out 5).trans rfl; have z6 := (blk_cell BX.out 6).trans rfl; have c0 := (HX.out.cell (p := ⟨b, 0, none⟩) LB.out).trans C0.out
    by_cases hlt : i < L.length
    · have e2 : decide ((i : Int) < (L.length : Int)) = true := decide_eq_true (by omega)
      have e3 : decide (i < L.length) = true := decide_eq_true (by omega)
      have p0 : (0 ≤ (i : Int)) = True := eq_true (by omega)
      have p2 : ((i : Int) < (L.length : Int)) = True := eq_true (by omega)
      have hw : wrap64 ((i : Int) + 1) = (i : Int) + 1 := by unfold wrap64; have := HN.out; omega
      have HLT := Aside0.mk hlt
      obtain ⟨ad0, rfl, x0, x1, x2, x3, x4, x5, x6⟩ := at_T32 (Kd.C_below HC.out HX.out) (i : Int) (Int.natCast_nonneg i) (by have := HLT.out; omega); simp only [Int.toNat_natCast] at x0 x1 x2 x3 x4 x5 x6
      clear hlt
      rcases q1 : ((rd_T32 L (i : Int)).f0.toList == v.f0.toList) with _ | _
      · go_wp2
        go_quiet (fail)
        go_wp2
        go_roundg g
        case measure => exact Nat.lt_succ_self g
        case rel => exact ⟨i + 1, by first | rfl | go_num | (simp; done), by have := HLT.out; omega, ⟨by have := HG.out; have := HLT.out; omega⟩, ⟨below_step HW.out (by repeat (first | exact Below.refl _ _ | apply below_drew1 | apply pw_below_drewN))⟩, ⟨hasId_step HLT.out q1 HH.out⟩⟩
      · have HD := Aside0.mk (dec_twice HVD.out (hasId_hit HLT.out q1))
        go_wp2
        go_quiet (fail)
        go_wp2
        go_ret
        exact ⟨by rw [HD.out]; rfl, ref_left HR.out (by repeat (first | exact HX.out | apply below_drew1 | apply pw_below_drewN)) HD.out (by decide)⟩
    · have e2 : decide ((i : Int) < (L.length : Int)) = false := decide_eq_false (by omega)
      have e3 : decide (i < L.length) = false := decide_eq_false (by omega)
      have HNO : Aside0 (hasId L v.f0 = false) := ⟨by have h := HH.out; rwa [List.take_of_length_le (by omega)] at h⟩
      clear hlt HH HG hi1
      rcases hl0 : L.length with _ | m
      · have HZ := Aside0.mk hl0
        have hz4 : decide (0 < L.length) = false := decide_eq_false (by omega)
        have hz5 : decide ((0 : Int) < (L.length : Int)) = false := decide_eq_false (by omega)
        have HCN : Aside0 (cur L v.f1 v.f2 = none) := ⟨by rw [List.length_eq_zero_iff.1 hl0]; rfl⟩
        have HLA : Aside0 (late L v = false) := ⟨by rw [List.length_eq_zero_iff.1 hl0]; rfl⟩
        have HIX : Aside0 (ixOf L v.f1 v.f2 = -1) := ⟨by rw [List.length_eq_zero_iff.1 hl0]; rfl⟩
        clear hl0
        go_wp2
        go_quiet (fail)
        refine ex_gen (fun V => V.heap[gb]? = some (.cells #[.string v.f0, .string v.f1, .string v.f2, .int .i64 v.f3, .int .i64 v.f4, .bool v.f5, .string v.f6] 32 (0, 0)) ∧ Below w.heap.size w V) ⟨(by repeat (first | exact BX.out | apply blk_drew | apply blk_drewN)), (by repeat (first | exact HX.out | apply below_drew1 | apply pw_below_drewN))⟩ ?_
        clear z0 z1 z2 z3 z4 z5 z6 c0 HX BX
        rintro V ⟨BKv, HV⟩
        replace BKv := Aside0.mk BKv
        replace HV := Aside0.mk HV
        have z0 := (blk_cell BKv.out 0).trans rfl
        have z1 := (blk_cell BKv.out 1).trans rfl
        have z2 := (blk_cell BKv.out 2).trans rfl
        have z3 := (blk_cell BKv.out 3).trans rfl
        have z4 := (blk_cell BKv.out 4).trans rfl
        have z5 := (blk_cell BKv.out 5).trans rfl
        have z6 := (blk_cell BKv.out 6).trans rfl
        have c0 := (HV.out.cell (p := ⟨b, 0, none⟩) LB.out).trans C0.out
        by_cases h6 : v.f6.toList = ([] : List UInt8)
        · have e6 : (v.f6.toList == ([] : List UInt8)) = true := by rw [h6]; rfl
          have e7 : (v.f6.toList != ([] : List UInt8)) = false := by rw [h6]; rfl
          have HD : Aside0 (dec L v = 0) := ⟨by rw [dec_none HVD.out HNO.out HLA.out HCN.out, if_pos h6]⟩
          clear h6
          go_wp2_with (go_at_call 26; go_loud (refine (ref_at _ G b L _ c v.f1 v.f2 (HR.out.below HV.out) HN.out).mono ?_; rintro e w5 ⟨he, rfl⟩; rw [HIX.out] at he; subst he))
          go_quiet (fail)
          refine ex_gen (fun V => V.heap[gb]? = some (.cells #[.string v.f0, .string v.f1, .string v.f2, .int .i64 v.f3, .int .i64 v.f4, .bool v.f5, .string v.f6] 32 (0, 0)) ∧ Below w.heap.size w V) ⟨(by repeat (first | exact BKv.out | apply blk_drew | apply blk_drewN)), (by repeat (first | exact HV.out | apply below_drew1 | apply pw_below_drewN))⟩ ?_
          clear z0 z1 z2 z3 z4 z5 z6 c0 HV BKv
          rintro V ⟨BKv, HV⟩
          replace BKv := Aside0.mk BKv
          replace HV := Aside0.mk HV
          have z0 := (blk_cell BKv.out 0).trans rfl
          have z1 := (blk_cell BKv.out 1).trans rfl
          have z2 := (blk_cell BKv.out 2).trans rfl
          have z3 := (blk_cell BKv.out 3).trans rfl
          have z4 := (blk_cell BKv.out 4).trans rfl
          have z5 := (blk_cell BKv.out 5).trans rfl
          have z6 := (blk_cell BKv.out 6).trans rfl
          have c0 := (HV.out.cell (p := ⟨b, 0, none⟩) LB.out).trans C0.out
          go_wp2
          have SV := Aside0.mk (Below.refl V.heap.size V)
          have AVS := Aside0.mk (HR.out.own)
          refine start_ (n := 13) (S := fun w' => Below V.heap.size V w') (ds := [12]) #[false, false, false, false, false, false, false, false, false, false, false, false, false] (by kernel_rfl) rfl rfl (Below.refl V.heap.size V).drew (fun hHeld => ?_)
          refine pure_ (i := 0) (N := some 98) (v := ?_) (a' := ?_) #[true, false, false, false, false, false, false, false, false, false, false, false, false] rfl rfl (by kernel_rfl) (fun _ _ _ h => h) (Or.inl ⟨by rfl, ?_⟩) ?_ ?_
          rotate_left
          · intro w'
            go_simp
            with_reducible rfl
          rotate_left
          · simp only [Act.put, List.setIfInBounds_toArray, List.set_cons_zero, List.set_cons_succ, i64_w, i32_w]
            rfl
          refine pure_ (i := 2) (N := some 100) (v := ?_) (a' := ?_) #[true, false, true, false, false, false, false, false, false, false, false, false, false] rfl rfl (by kernel_rfl) (fun _ _ _ h => h) (Or.inl ⟨by rfl, ?_⟩) ?_ ?_
          rotate_left
          · intro w'
            go_simp
            with_reducible rfl
          rotate_left
          · simp only [Act.put, List.setIfInBounds_toArray, List.set_cons_zero, List.set_cons_succ, i64_w, i32_w]
            rfl
          refine pure_ (i := 3) (N := some 101) (v := ?_) (a' := ?_) #[true, false, true, true, false, false, false, false, false, false, false, false, false] rfl rfl (by kernel_rfl) (fun _ _ _ h => h) (Or.inl ⟨by rfl, ?_⟩) ?_ ?_
          rotate_left
          · intro w'
            go_simp
            with_reducible rfl
          rotate_left
          · simp only [Act.put, List.setIfInBounds_toArray, List.set_cons_zero, List.set_cons_succ, i64_w, i32_w]
            rfl
          refine pure_ (i := 4) (N := some 102) (v := ?_) (a' := ?_) #[true, false, true, true, true, false, false, false, false, false, false, false, false] rfl rfl (by kernel_rfl) (fun _ _ _ h => h) (Or.inl ⟨by rfl, ?_⟩) ?_ ?_
          rotate_left
          · intro w'
            go_simp
            with_reducible rfl
          rotate_left
          · simp only [Act.put, List.setIfInBounds_toArray, List.set_cons_zero, List.set_cons_succ, i64_w, i32_w]
            rfl
          refine take_ (i := 5) (N := some 103) (v := ?_) (a' := ?_) #[true, false, true, true, true, true, false, false, false, false, false, false, false] rfl rfl (by kernel_rfl) (fun _ _ _ h => h) (Or.inl ⟨by rfl, ?_⟩) hHeld ?_ ?_
          rotate_left
          · rintro w' hS
            have c0 := (hS.cell (p := ⟨b, 0, none⟩) (Nat.lt_of_lt_of_le LB.out HV.out.size)).trans c0
            go_simp
            with_reducible rfl
          rotate_left
          · simp only [Act.put, List.setIfInBounds_toArray, List.set_cons_zero, List.set_cons_succ, i64_w, i32_w]
            rfl
          refine take_ (i := 7) (N := some 105) (v := ?_) (a' := ?_) #[true, false, true, true, true, true, false, true, false, false, false, false, false] rfl rfl (by kernel_rfl) (fun _ _ _ h => h) (Or.inl ⟨by rfl, ?_⟩) hHeld ?_ ?_
          rotate_left
          · rintro w' hS
            have HBK := blk_below BKv.out hS
            have z0 := (blk_cell HBK 0).trans rfl
            have z1 := (blk_cell HBK 1).trans rfl
            have z2 := (blk_cell HBK 2).trans rfl
            have z3 := (blk_cell HBK 3).trans rfl
            have z4 := (blk_cell HBK 4).trans rfl
            have z5 := (blk_cell HBK 5).trans rfl
            have z6 := (blk_cell HBK 6).trans rfl
            go_simp
            with_reducible rfl
          rotate_left
          · simp only [Act.put, List.setIfInBounds_toArray, List.set_cons_zero, List.set_cons_succ, i64_w, i32_w]
            rfl
          refine join_ (σ := Value × Value × Value) 4 #[true, true, true, true, true, true, true, true, true, false, false, false, false] (fun s => [(99, s.1), (104, s.2.1), (106, s.2.2)]) (fun s w3 => w3.ownsRow V.heap.size 32 7 s.2.1 L.length (cellsL L) ∧ w3.ownsRow V.heap.size 32 7 s.2.2 1 (vcells v).toList ∧ Below V.heap.size V w3) ?_ ?_
          rotate_left
          · intro hcont
            refine two_ (i := 1) (j := 8) (Ni := some 99) (Nj := some 106) #[true, true, true, true, true, true, false, true, false, false, false, false, false] #[true, false, true, true, true, true, false, true, true, false, false, false, false] rfl rfl rfl rfl (by kernel_rfl) (by decide) (by decide) (fun K hK => ?_) (fun K hK => ?_)
            · skip
              refine st_build 0 #[] (by rfl) (by decide) (by rfl) (N := 99) rfl ?hr ?_
              case hr => first | (go_simp; done) | (go_simp; rfl) | (simp; done)
              intro g99 w1 o99 hb
              refine hK.out _ _ (below_step hHeld hb) (fun hHeld => ?_)
              clear hK K
              have hs_w1 := hHeld.size
              refine norm_ (a' := ?_) ?_ ?_
              rotate_left
              · show Act.put _ (some 99) _ = _
                simp only [Act.put, List.setIfInBounds_toArray, List.set_cons_zero, List.set_cons_succ, i64_w, i32_w]
                rfl
              have o99b : w1.ownsRow V.heap.size 32 7 (.slice (some ⟨g99, 0, none⟩) 0 0) 0 [] := own_less o99 (Nat.le_refl _)
              refine two_ (i := 6) (j := 8) (Ni := some 104) (Nj := some 106) #[true, true, true, true, true, true, true, true, false, false, false, false, false] #[true, true, true, true, true, true, false, true, true, false, false, false, false] rfl rfl rfl rfl (by kernel_rfl) (by decide) (by decide) (fun K hK => ?_) (fun K hK => ?_)
              · skip
                refine st_append (by rfl) (N := 104) rfl (.tmp 99) (.tmp 103) 22 rfl V.heap.size 0 32 i0 _ 7 88 Tryd.underlying22 hi hz0 hz1 hz2 rfl (by decide) _ 0 [] rfl o99b _ L.length (cellsL L) rfl (own_move AVS.out (fun k hk => (hHeld.block k (Nat.lt_of_lt_of_le (HR.out.own.lt k hk).2 HV.out.size)).trans (HV.out.block k (HR.out.own.lt k hk).2))) (cellsL_one L) (by have := HN.out; unfold maxLen; omega) (by have := HN.out; omega) hHeld.size ?_
                intro v104 w2 o104 hg hat
                rw [Nat.zero_add, List.nil_append] at o104
                have hb := hHeld.grown hg hHeld.size (own_base o99b)
                refine hK.out _ _ (hb) (fun hHeld => ?_)
                clear hK K
                have hs_w2 := hHeld.size
                refine norm_ (a' := ?_) ?_ ?_
                rotate_left
                · show Act.put _ (some 104) _ = _
                  simp only [Act.put, List.setIfInBounds_toArray, List.set_cons_zero, List.set_cons_succ, i64_w, i32_w]
                  rfl
                refine one_ (i := 8) (N := some 106) #[true, true, true, true, true, true, true, true, true, false, false, false, false] rfl rfl (by kernel_rfl) (by decide) (fun K hK => ?_)
                refine st_build 1 #[.string v.f0, .string v.f1, .string v.f2, .int .i64 v.f3, .int .i64 v.f4, .bool v.f5, .string v.f6] (by rfl) (by decide) (by rfl) (N := 106) rfl ?hr ?_
                case hr => first | (go_simp; done) | (go_simp; rfl) | (simp; done)
                intro g106 w3 o106 hb
                refine hK.out _ _ (below_step hHeld hb) (fun hHeld => ?_)
                clear hK K
                have hs_w3 := hHeld.size
                refine norm_ (a' := ?_) ?_ ?_
                rotate_left
                · show Act.put _ (some 106) _ = _
                  simp only [Act.put, List.setIfInBounds_toArray, List.set_cons_zero, List.set_cons_succ, i64_w, i32_w]
                  rfl
                exact norm_ (by simp only [putAll, Act.put, List.setIfInBounds_toArray, List.set_cons_zero, List.set_cons_succ, i64_w, i32_w]) (hcont (.slice (some ⟨g99, 0, none⟩) 0 0, v104, .slice (some ⟨g106, 0, none⟩) 1 1) _ ⟨(own_move o104 (fun k hk => hb.block k (o104.lt k hk).2)), (own_less o106 hs_w2), hHeld⟩)
              · skip
                refine st_build 1 #[.string v.f0, .string v.f1, .string v.f2, .int .i64 v.f3, .int .i64 v.f4, .bool v.f5, .string v.f6] (by rfl) (by decide) (by rfl) (N := 106) rfl ?hr ?_
                case hr => first | (go_simp; done) | (go_simp; rfl) | (simp; done)
                intro g106 w2 o106 hb
                refine hK.out _ _ (below_step hHeld hb) (fun hHeld => ?_)
                clear hK K
                have hs_w2 := hHeld.size
                refine norm_ (a' := ?_) ?_ ?_
                rotate_left
                · show Act.put _ (some 106) _ = _
                  simp only [Act.put, List.setIfInBounds_toArray, List.set_cons_zero, List.set_cons_succ, i64_w, i32_w]
                  rfl
                have o99c := own_move o99b (fun k hk => hb.block k (o99b.lt k hk).2)
                refine one_ (i := 6) (N := some 104) #[true, true, true, true, true, true, true, true, true, false, false, false, false] rfl rfl (by kernel_rfl) (by decide) (fun K hK => ?_)
                have o106b := o106
                refine st_append (by rfl) (N := 104) rfl (.tmp 99) (.tmp 103) 22 rfl V.heap.size 0 32 i0 _ 7 88 Tryd.underlying22 hi hz0 hz1 hz2 rfl (by decide) _ 0 [] rfl o99c _ L.length (cellsL L) rfl (own_move AVS.out (fun k hk => (hHeld.block k (Nat.lt_of_lt_of_le (HR.out.own.lt k hk).2 HV.out.size)).trans (HV.out.block k (HR.out.own.lt k hk).2))) (cellsL_one L) (by have := HN.out; unfold maxLen; omega) (by have := HN.out; omega) hHeld.size ?_
                intro v104 w3 o104 hg hat
                rw [Nat.zero_add, List.nil_append] at o104
                have hb := hHeld.grown hg hHeld.size (own_base o99c)
                refine hK.out _ _ (hb) (fun hHeld => ?_)
                clear hK K
                have hs_w3 := hHeld.size
                refine norm_ (a' := ?_) ?_ ?_
                rotate_left
                · show Act.put _ (some 104) _ = _
                  simp only [Act.put, List.setIfInBounds_toArray, List.set_cons_zero, List.set_cons_succ, i64_w, i32_w]
                  rfl
                exact norm_ (by simp only [putAll, Act.put, List.setIfInBounds_toArray, List.set_cons_zero, List.set_cons_succ, i64_w, i32_w]) (hcont (.slice (some ⟨g99, 0, none⟩) 0 0, v104, .slice (some ⟨g106, 0, none⟩) 1 1) _ ⟨o104, (own_less (own_move o106 (fun k hk => hg.block k (o106.lt k hk).2 (fun e => by have h1 := own_base o106 k hk; have h2 := (o99b.lt k e.symm).2; omega))) hs_w1), hHeld⟩)
            · skip
              refine st_build 1 #[.string v.f0, .string v.f1, .string v.f2, .int .i64 v.f3, .int .i64 v.f4, .bool v.f5, .string v.f6] (by rfl) (by decide) (by rfl) (N := 106) rfl ?hr ?_
              case hr => first | (go_simp; done) | (go_simp; rfl) | (simp; done)
              intro g106 w1 o106 hb
              refine hK.out _ _ (below_step hHeld hb) (fun hHeld => ?_)
              clear hK K
              have hs_w1 := hHeld.size
              refine norm_ (a' := ?_) ?_ ?_
              rotate_left
              · show Act.put _ (some 106) _ = _
                simp only [Act.put, List.setIfInBounds_toArray, List.set_cons_zero, List.set_cons_succ, i64_w, i32_w]
                rfl
              refine one_ (i := 1) (N := some 99) #[true, true, true, true, true, true, false, true, true, false, false, false, false] rfl rfl (by kernel_rfl) (by decide) (fun K hK => ?_)
              have o106b := o106
              refine st_build 0 #[] (by rfl) (by decide) (by rfl) (N := 99) rfl ?hr ?_
              case hr => first | (go_simp; done) | (go_simp; rfl) | (simp; done)
              intro g99 w2 o99 hb
              refine hK.out _ _ (below_step hHeld hb) (fun hHeld => ?_)
              clear hK K
              have hs_w2 := hHeld.size
              refine norm_ (a' := ?_) ?_ ?_
              rotate_left
              · show Act.put _ (some 99) _ = _
                simp only [Act.put, List.setIfInBounds_toArray, List.set_cons_zero, List.set_cons_succ, i64_w, i32_w]
                rfl
              have o106c := own_move o106 (fun k hk => hb.block k (o106.lt k hk).2)
              have o99b : w2.ownsRow V.heap.size 32 7 (.slice (some ⟨g99, 0, none⟩) 0 0) 0 [] := own_less o99 hs_w1
              refine one_ (i := 6) (N := some 104) #[true, true, true, true, true, true, true, true, true, false, false, false, false] rfl rfl (by kernel_rfl) (by decide) (fun K hK => ?_)
              refine st_append (by rfl) (N := 104) rfl (.tmp 99) (.tmp 103) 22 rfl V.heap.size 0 32 i0 _ 7 88 Tryd.underlying22 hi hz0 hz1 hz2 rfl (by decide) _ 0 [] rfl o99b _ L.length (cellsL L) rfl (own_move AVS.out (fun k hk => (hHeld.block k (Nat.lt_of_lt_of_le (HR.out.own.lt k hk).2 HV.out.size)).trans (HV.out.block k (HR.out.own.lt k hk).2))) (cellsL_one L) (by have := HN.out; unfold maxLen; omega) (by have := HN.out; omega) hHeld.size ?_
              intro v104 w3 o104 hg hat
              rw [Nat.zero_add, List.nil_append] at o104
              have hb := hHeld.grown hg hHeld.size (own_base o99b)
              refine hK.out _ _ (hb) (fun hHeld => ?_)
              clear hK K
              have hs_w3 := hHeld.size
              refine norm_ (a' := ?_) ?_ ?_
              rotate_left
              · show Act.put _ (some 104) _ = _
                simp only [Act.put, List.setIfInBounds_toArray, List.set_cons_zero, List.set_cons_succ, i64_w, i32_w]
                rfl
              exact norm_ (by simp only [putAll, Act.put, List.setIfInBounds_toArray, List.set_cons_zero, List.set_cons_succ, i64_w, i32_w]) (hcont (.slice (some ⟨g99, 0, none⟩) 0 0, v104, .slice (some ⟨g106, 0, none⟩) 1 1) _ ⟨o104, (own_less (own_move o106c (fun k hk => hg.block k (o106c.lt k hk).2 (fun e => by have h1 := own_base o99 k e.symm; have h2 := (o106.lt k hk).2; omega))) (Nat.le_refl _)), hHeld⟩)
          rintro ⟨v99, v104, v106⟩ w3 ⟨o104, o106, hHeld⟩
          dsimp only at o104 o106
          obtain ⟨A4, c4, rfl⟩ := own_slice o104
          obtain ⟨A6, c6, rfl⟩ := own_slice o106
          refine norm_ (a' := ?_) ?_ ?_
          rotate_left
          · simp only [putAll, Act.put, List.setIfInBounds_toArray, List.set_cons_zero, List.set_cons_succ, i64_w, i32_w]
            rfl
          refine one_ (i := 9) (N := some 107) #[true, true, true, true, true, true, true, true, true, true, false, false, false] rfl rfl (by kernel_rfl) (by decide) (fun K hK => ?_)
          refine st_append (by rfl) (N := 107) rfl (.tmp 104) (.tmp 106) 22 rfl V.heap.size V.heap.size 32 i0 _ 7 88 Tryd.underlying22 hi hz0 hz1 hz2 rfl (by decide) _ L.length (cellsL L) rfl o104 _ 1 (vcells v).toList rfl o106 (vcells_one v) (by have := HN.out; unfold maxLen; omega) (by have := HN.out; omega) hHeld.size ?_
          intro v107 w4 o107 hg hat
          obtain ⟨A7, c7, rfl⟩ := own_slice o107
          have hb := hHeld.grown hg hHeld.size (own_base o104)
          refine hK.out _ _ hb (fun hHeld => ?_)
          clear hK K
          refine norm_ (a' := ?_) ?_ ?_
          rotate_left
          · show Act.put _ (some 107) _ = _
            simp only [Act.put, List.setIfInBounds_toArray, List.set_cons_zero, List.set_cons_succ, i64_w, i32_w]
            rfl
          refine pure_ (i := 10) (N := some 108) (v := ?_) (a' := ?_) #[true, true, true, true, true, true, true, true, true, true, true, false, false] rfl rfl (by kernel_rfl) (fun _ _ _ h => h) (Or.inl ⟨by rfl, ?_⟩) ?_ ?_
          rotate_left
          · intro w'
            go_simp
            with_reducible rfl
          rotate_left
          · simp only [Act.put, List.setIfInBounds_toArray, List.set_cons_zero, List.set_cons_succ, i64_w, i32_w]
            rfl
          refine pure_ (i := 11) (N := some 109) (v := ?_) (a' := ?_) #[true, true, true, true, true, true, true, true, true, true, true, true, false] rfl rfl (by kernel_rfl) (fun _ _ _ h => h) (Or.inl ⟨by rfl, ?_⟩) ?_ ?_
          rotate_left
          · intro w'
            go_simp
            with_reducible rfl
          rotate_left
          · simp only [Act.put, List.setIfInBounds_toArray, List.set_cons_zero, List.set_cons_succ, i64_w, i32_w]
            rfl
          have c4 := (hb.cell (p := ⟨b, 0, none⟩) (Nat.lt_of_lt_of_le LB.out HV.out.size)).trans c0
          have f4 := (World.frozen?_of_block (a := ⟨b, 0, none⟩) (hb.block b (Nat.lt_of_lt_of_le LB.out HV.out.size))).trans ((World.frozen?_of_block (a := ⟨b, 0, none⟩) (HV.out.block b LB.out)).trans F0.out)
          refine last_ (i := 12) (N := none) #[true, true, true, true, true, true, true, true, true, true, true, true, true] rfl rfl (by kernel_rfl) (by decide) (fun K hK => ?_)
          have HFIN := Aside0.mk (ref_stored HR.out HV.out hb o107 HD.out)
          clear hg hat o104 o106 o107 hHeld hb
          go_simp
          refine hK.out _ _ ?_
          clear hK K
          refine done_ (by kernel_rfl) ?_
          go_wp2
          go_ret
          exact ⟨by rw [HD.out]; rfl, HFIN.out⟩
        · have e6 : (v.f6.toList == ([] : List UInt8)) = false := beq_eq_false_iff_ne.2 h6
          have e7 : (v.f6.toList != ([] : List UInt8)) = true := bne_iff_ne.2 h6
          have HD : Aside0 (dec L v = 11) := ⟨by rw [dec_none HVD.out HNO.out HLA.out HCN.out, if_neg h6]⟩
          clear h6
          go_wp2_with (go_at_call 26; go_loud (refine (ref_at _ G b L _ c v.f1 v.f2 (HR.out.below HV.out) HN.out).mono ?_; rintro e w5 ⟨he, rfl⟩; rw [HIX.out] at he; subst he))
          go_ret
          exact ⟨by rw [HD.out]; rfl, ref_left HR.out (by repeat (first | exact HV.out | apply below_drew1 | apply pw_below_drewN)) HD.out (by decide)⟩
      · have HM := Aside0.mk hl0
        have hz4 : decide (0 < L.length) = true := decide_eq_true (by omega)
        have hz5 : decide ((0 : Int) < (L.length : Int)) = true := decide_eq_true (by omega)
        have hw9 : wrap64 ((L.length : Int) - 1) = (m : Int) := by unfold wrap64; have := HN.out; omega
        have p0 : (0 ≤ (m : Int)) = True := eq_true (by omega)
        have p2 : ((m : Int) < (L.length : Int)) = True := eq_true (by omega)
        have HLM : Aside0 (m < L.length) := ⟨by omega⟩
        have hll := late_last (v := v) hl0
        clear hl0
        obtain ⟨ad0, rfl, x0, x1, x2, x3, x4, x5, x6⟩ := at_T32 (Kd.C_below HC.out HX.out) (m : Int) (Int.natCast_nonneg m) (by have := HLM.out; omega); simp only [Int.toNat_natCast] at x0 x1 x2 x3 x4 x5 x6
        rcases hd4 : decide (v.f4 < (rd_T32 L (m : Int)).f4) with _ | _
        · have HLA := Aside0.mk (hll.trans hd4)
          clear hll
          go_wp2
          go_quiet (fail)
          clear x0 x1 x2 x3 x4 x5 x6 p0 p2
          rcases ix_all L v.f1 v.f2 with ⟨hc, hx⟩ | ⟨j, hj, hx, hc⟩
          · have HCN := Aside0.mk hc
            have HIX := Aside0.mk hx
            clear hc hx
            refine ex_gen (fun V => V.heap[gb]? = some (.cells #[.string v.f0, .string v.f1, .string v.f2, .int .i64 v.f3, .int .i64 v.f4, .bool v.f5, .string v.f6] 32 (0, 0)) ∧ Below w.heap.size w V) ⟨(by repeat (first | exact BX.out | apply blk_drew | apply blk_drewN)), (by repeat (first | exact HX.out | apply below_drew1 | apply pw_below_drewN))⟩ ?_
            clear z0 z1 z2 z3 z4 z5 z6 c0 HX BX
            rintro V ⟨BKv, HV⟩
            replace BKv := Aside0.mk BKv
            replace HV := Aside0.mk HV
            have z0 := (blk_cell BKv.out 0).trans rfl
            have z1 := (blk_cell BKv.out 1).trans rfl
            have z2 := (blk_cell BKv.out 2).trans rfl
            have z3 := (blk_cell BKv.out 3).trans rfl
            have z4 := (blk_cell BKv.out 4).trans rfl
            have z5 := (blk_cell BKv.out 5).trans rfl
            have z6 := (blk_cell BKv.out 6).trans rfl
            have c0 := (HV.out.cell (p := ⟨b, 0, none⟩) LB.out).trans C0.out
            by_cases h6 : v.f6.toList = ([] : List UInt8)
            · have e6 : (v.f6.toList == ([] : List UInt8)) = true := by rw [h6]; rfl
              have e7 : (v.f6.toList != ([] : List UInt8)) = false := by rw [h6]; rfl
              have HD : Aside0 (dec L v = 0) := ⟨by rw [dec_none HVD.out HNO.out HLA.out HCN.out, if_pos h6]⟩
              clear h6
              go_wp2_with (go_at_call 26; go_loud (refine (ref_at _ G b L _ c v.f1 v.f2 (HR.out.below HV.out) HN.out).mono ?_; rintro e w5 ⟨he, rfl⟩; rw [HIX.out] at he; subst he))
              go_quiet (fail)
              refine ex_gen (fun V => V.heap[gb]? = some (.cells #[.string v.f0, .string v.f1, .string v.f2, .int .i64 v.f3, .int .i64 v.f4, .bool v.f5, .string v.f6] 32 (0, 0)) ∧ Below w.heap.size w V) ⟨(by repeat (first | exact BKv.out | apply blk_drew | apply blk_drewN)), (by repeat (first | exact HV.out | apply below_drew1 | apply pw_below_drewN))⟩ ?_
              clear z0 z1 z2 z3 z4 z5 z6 c0 HV BKv
              rintro V ⟨BKv, HV⟩
              replace BKv := Aside0.mk BKv
              replace HV := Aside0.mk HV
              have z0 := (blk_cell BKv.out 0).trans rfl
              have z1 := (blk_cell BKv.out 1).trans rfl
              have z2 := (blk_cell BKv.out 2).trans rfl
              have z3 := (blk_cell BKv.out 3).trans rfl
              have z4 := (blk_cell BKv.out 4).trans rfl
              have z5 := (blk_cell BKv.out 5).trans rfl
              have z6 := (blk_cell BKv.out 6).trans rfl
              have c0 := (HV.out.cell (p := ⟨b, 0, none⟩) LB.out).trans C0.out
              go_wp2
              have SV := Aside0.mk (Below.refl V.heap.size V)
              have AVS := Aside0.mk (HR.out.own)
              refine start_ (n := 13) (S := fun w' => Below V.heap.size V w') (ds := [12]) #[false, false, false, false, false, false, false, false, false, false, false, false, false] (by kernel_rfl) rfl rfl (Below.refl V.heap.size V).drew (fun hHeld => ?_)
              refine pure_ (i := 0) (N := some 98) (v := ?_) (a' := ?_) #[true, false, false, false, false, false, false, false, false, false, false, false, false] rfl rfl (by kernel_rfl) (fun _ _ _ h => h) (Or.inl ⟨by rfl, ?_⟩) ?_ ?_
              rotate_left
              · intro w'
                go_simp
                with_reducible rfl
              rotate_left
              · simp only [Act.put, List.setIfInBounds_toArray, List.set_cons_zero, List.set_cons_succ, i64_w, i32_w]
                rfl
              refine pure_ (i := 2) (N := some 100) (v := ?_) (a' := ?_) #[true, false, true, false, false, false, false, false, false, false, false, false, false] rfl rfl (by kernel_rfl) (fun _ _ _ h => h) (Or.inl ⟨by rfl, ?_⟩) ?_ ?_
              rotate_left
              · intro w'
                go_simp
                with_reducible rfl
              rotate_left
              · simp only [Act.put, List.setIfInBounds_toArray, List.set_cons_zero, List.set_cons_succ, i64_w, i32_w]
                rfl
              refine pure_ (i := 3) (N := some 101) (v := ?_) (a' := ?_) #[true, false, true, true, false, false, false, false, false, false, false, false, false] rfl rfl (by kernel_rfl) (fun _ _ _ h => h) (Or.inl ⟨by rfl, ?_⟩) ?_ ?_
              rotate_left
              · intro w'
                go_simp
                with_reducible rfl
              rotate_left
              · simp only [Act.put, List.setIfInBounds_toArray, List.set_cons_zero, List.set_cons_succ, i64_w, i32_w]
                rfl
              refine pure_ (i := 4) (N := some 102) (v := ?_) (a' := ?_) #[true, false, true, true, true, false, false, false, false, false, false, false, false] rfl rfl (by kernel_rfl) (fun _ _ _ h => h) (Or.inl ⟨by rfl, ?_⟩) ?_ ?_
              rotate_left
              · intro w'
                go_simp
                with_reducible rfl
              rotate_left
              · simp only [Act.put, List.setIfInBounds_toArray, List.set_cons_zero, List.set_cons_succ, i64_w, i32_w]
                rfl
              refine take_ (i := 5) (N := some 103) (v := ?_) (a' := ?_) #[true, false, true, true, true, true, false, false, false, false, false, false, false] rfl rfl (by kernel_rfl) (fun _ _ _ h => h) (Or.inl ⟨by rfl, ?_⟩) hHeld ?_ ?_
              rotate_left
              · rintro w' hS
                have c0 := (hS.cell (p := ⟨b, 0, none⟩) (Nat.lt_of_lt_of_le LB.out HV.out.size)).trans c0
                go_simp
                with_reducible rfl
              rotate_left
              · simp only [Act.put, List.setIfInBounds_toArray, List.set_cons_zero, List.set_cons_succ, i64_w, i32_w]
                rfl
              refine take_ (i := 7) (N := some 105) (v := ?_) (a' := ?_) #[true, false, true, true, true, true, false, true, false, false, false, false, false] rfl rfl (by kernel_rfl) (fun _ _ _ h => h) (Or.inl ⟨by rfl, ?_⟩) hHeld ?_ ?_
              rotate_left
              · rintro w' hS
                have HBK := blk_below BKv.out hS
                have z0 := (blk_cell HBK 0).trans rfl
                have z1 := (blk_cell HBK 1).trans rfl
                have z2 := (blk_cell HBK 2).trans rfl
                have z3 := (blk_cell HBK 3).trans rfl
                have z4 := (blk_cell HBK 4).trans rfl
                have z5 := (blk_cell HBK 5).trans rfl
                have z6 := (blk_cell HBK 6).trans rfl
                go_simp
                with_reducible rfl
              rotate_left
              · simp only [Act.put, List.setIfInBounds_toArray, List.set_cons_zero, List.set_cons_succ, i64_w, i32_w]
                rfl
              refine join_ (σ := Value × Value × Value) 4 #[true, true, true, true, true, true, true, true, true, false, false, false, false] (fun s => [(99, s.1), (104, s.2.1), (106, s.2.2)]) (fun s w3 => w3.ownsRow V.heap.size 32 7 s.2.1 L.length (cellsL L) ∧ w3.ownsRow V.heap.size 32 7 s.2.2 1 (vcells v).toList ∧ Below V.heap.size V w3) ?_ ?_
              rotate_left
              · intro hcont
                refine two_ (i := 1) (j := 8) (Ni := some 99) (Nj := some 106) #[true, true, true, true, true, true, false, true, false, false, false, false, false] #[true, false, true, true, true, true, false, true, true, false, false, false, false] rfl rfl rfl rfl (by kernel_rfl) (by decide) (by decide) (fun K hK => ?_) (fun K hK => ?_)
                · skip
                  refine st_build 0 #[] (by rfl) (by decide) (by rfl) (N := 99) rfl ?hr ?_
                  case hr => first | (go_simp; done) | (go_simp; rfl) | (simp; done)
                  intro g99 w1 o99 hb
                  refine hK.out _ _ (below_step hHeld hb) (fun hHeld => ?_)
                  clear hK K
                  have hs_w1 := hHeld.size
                  refine norm_ (a' := ?_) ?_ ?_
                  rotate_left
                  · show Act.put _ (some 99) _ = _
                    simp only [Act.put, List.setIfInBounds_toArray, List.set_cons_zero, List.set_cons_succ, i64_w, i32_w]
                    rfl
                  have o99b : w1.ownsRow V.heap.size 32 7 (.slice (some ⟨g99, 0, none⟩) 0 0) 0 [] := own_less o99 (Nat.le_refl _)
                  refine two_ (i := 6) (j := 8) (Ni := some 104) (Nj := some 106) #[true, true, true, true, true, true, true, true, false, false, false, false, false] #[true, true, true, true, true, true, false, true, true, false, false, false, false] rfl rfl rfl rfl (by kernel_rfl) (by decide) (by decide) (fun K hK => ?_) (fun K hK => ?_)
                  · skip
                    refine st_append (by rfl) (N := 104) rfl (.tmp 99) (.tmp 103) 22 rfl V.heap.size 0 32 i0 _ 7 88 Tryd.underlying22 hi hz0 hz1 hz2 rfl (by decide) _ 0 [] rfl o99b _ L.length (cellsL L) rfl (own_move AVS.out (fun k hk => (hHeld.block k (Nat.lt_of_lt_of_le (HR.out.own.lt k hk).2 HV.out.size)).trans (HV.out.block k (HR.out.own.lt k hk).2))) (cellsL_one L) (by have := HN.out; unfold maxLen; omega) (by have := HN.out; omega) hHeld.size ?_
                    intro v104 w2 o104 hg hat
                    rw [Nat.zero_add, List.nil_append] at o104
                    have hb := hHeld.grown hg hHeld.size (own_base o99b)
                    refine hK.out _ _ (hb) (fun hHeld => ?_)
                    clear hK K
                    have hs_w2 := hHeld.size
                    refine norm_ (a' := ?_) ?_ ?_
                    rotate_left
                    · show Act.put _ (some 104) _ = _
                      simp only [Act.put, List.setIfInBounds_toArray, List.set_cons_zero, List.set_cons_succ, i64_w, i32_w]
                      rfl
                    refine one_ (i := 8) (N := some 106) #[true, true, true, true, true, true, true, true, true, false, false, false, false] rfl rfl (by kernel_rfl) (by decide) (fun K hK => ?_)
                    refine st_build 1 #[.string v.f0, .string v.f1, .string v.f2, .int .i64 v.f3, .int .i64 v.f4, .bool v.f5, .string v.f6] (by rfl) (by decide) (by rfl) (N := 106) rfl ?hr ?_
                    case hr => first | (go_simp; done) | (go_simp; rfl) | (simp; done)
                    intro g106 w3 o106 hb
                    refine hK.out _ _ (below_step hHeld hb) (fun hHeld => ?_)
                    clear hK K
                    have hs_w3 := hHeld.size
                    refine norm_ (a' := ?_) ?_ ?_
                    rotate_left
                    · show Act.put _ (some 106) _ = _
                      simp only [Act.put, List.setIfInBounds_toArray, List.set_cons_zero, List.set_cons_succ, i64_w, i32_w]
                      rfl
                    exact norm_ (by simp only [putAll, Act.put, List.setIfInBounds_toArray, List.set_cons_zero, List.set_cons_succ, i64_w, i32_w]) (hcont (.slice (some ⟨g99, 0, none⟩) 0 0, v104, .slice (some ⟨g106, 0, none⟩) 1 1) _ ⟨(own_move o104 (fun k hk => hb.block k (o104.lt k hk).2)), (own_less o106 hs_w2), hHeld⟩)
                  · skip
                    refine st_build 1 #[.string v.f0, .string v.f1, .string v.f2, .int .i64 v.f3, .int .i64 v.f4, .bool v.f5, .string v.f6] (by rfl) (by decide) (by rfl) (N := 106) rfl ?hr ?_
                    case hr => first | (go_simp; done) | (go_simp; rfl) | (simp; done)
                    intro g106 w2 o106 hb
                    refine hK.out _ _ (below_step hHeld hb) (fun hHeld => ?_)
                    clear hK K
                    have hs_w2 := hHeld.size
                    refine norm_ (a' := ?_) ?_ ?_
                    rotate_left
                    · show Act.put _ (some 106) _ = _
                      simp only [Act.put, List.setIfInBounds_toArray, List.set_cons_zero, List.set_cons_succ, i64_w, i32_w]
                      rfl
                    have o99c := own_move o99b (fun k hk => hb.block k (o99b.lt k hk).2)
                    refine one_ (i := 6) (N := some 104) #[true, true, true, true, true, true, true, true, true, false, false, false, false] rfl rfl (by kernel_rfl) (by decide) (fun K hK => ?_)
                    have o106b := o106
                    refine st_append (by rfl) (N := 104) rfl (.tmp 99) (.tmp 103) 22 rfl V.heap.size 0 32 i0 _ 7 88 Tryd.underlying22 hi hz0 hz1 hz2 rfl (by decide) _ 0 [] rfl o99c _ L.length (cellsL L) rfl (own_move AVS.out (fun k hk => (hHeld.block k (Nat.lt_of_lt_of_le (HR.out.own.lt k hk).2 HV.out.size)).trans (HV.out.block k (HR.out.own.lt k hk).2))) (cellsL_one L) (by have := HN.out; unfold maxLen; omega) (by have := HN.out; omega) hHeld.size ?_
                    intro v104 w3 o104 hg hat
                    rw [Nat.zero_add, List.nil_append] at o104
                    have hb := hHeld.grown hg hHeld.size (own_base o99c)
                    refine hK.out _ _ (hb) (fun hHeld => ?_)
                    clear hK K
                    have hs_w3 := hHeld.size
                    refine norm_ (a' := ?_) ?_ ?_
                    rotate_left
                    · show Act.put _ (some 104) _ = _
                      simp only [Act.put, List.setIfInBounds_toArray, List.set_cons_zero, List.set_cons_succ, i64_w, i32_w]
                      rfl
                    exact norm_ (by simp only [putAll, Act.put, List.setIfInBounds_toArray, List.set_cons_zero, List.set_cons_succ, i64_w, i32_w]) (hcont (.slice (some ⟨g99, 0, none⟩) 0 0, v104, .slice (some ⟨g106, 0, none⟩) 1 1) _ ⟨o104, (own_less (own_move o106 (fun k hk => hg.block k (o106.lt k hk).2 (fun e => by have h1 := own_base o106 k hk; have h2 := (o99b.lt k e.symm).2; omega))) hs_w1), hHeld⟩)
                · skip
                  refine st_build 1 #[.string v.f0, .string v.f1, .string v.f2, .int .i64 v.f3, .int .i64 v.f4, .bool v.f5, .string v.f6] (by rfl) (by decide) (by rfl) (N := 106) rfl ?hr ?_
                  case hr => first | (go_simp; done) | (go_simp; rfl) | (simp; done)
                  intro g106 w1 o106 hb
                  refine hK.out _ _ (below_step hHeld hb) (fun hHeld => ?_)
                  clear hK K
                  have hs_w1 := hHeld.size
                  refine norm_ (a' := ?_) ?_ ?_
                  rotate_left
                  · show Act.put _ (some 106) _ = _
                    simp only [Act.put, List.setIfInBounds_toArray, List.set_cons_zero, List.set_cons_succ, i64_w, i32_w]
                    rfl
                  refine one_ (i := 1) (N := some 99) #[true, true, true, true, true, true, false, true, true, false, false, false, false] rfl rfl (by kernel_rfl) (by decide) (fun K hK => ?_)
                  have o106b := o106
                  refine st_build 0 #[] (by rfl) (by decide) (by rfl) (N := 99) rfl ?hr ?_
                  case hr => first | (go_simp; done) | (go_simp; rfl) | (simp; done)
                  intro g99 w2 o99 hb
                  refine hK.out _ _ (below_step hHeld hb) (fun hHeld => ?_)
                  clear hK K
                  have hs_w2 := hHeld.size
                  refine norm_ (a' := ?_) ?_ ?_
                  rotate_left
                  · show Act.put _ (some 99) _ = _
                    simp only [Act.put, List.setIfInBounds_toArray, List.set_cons_zero, List.set_cons_succ, i64_w, i32_w]
                    rfl
                  have o106c := own_move o106 (fun k hk => hb.block k (o106.lt k hk).2)
                  have o99b : w2.ownsRow V.heap.size 32 7 (.slice (some ⟨g99, 0, none⟩) 0 0) 0 [] := own_less o99 hs_w1
                  refine one_ (i := 6) (N := some 104) #[true, true, true, true, true, true, true, true, true, false, false, false, false] rfl rfl (by kernel_rfl) (by decide) (fun K hK => ?_)
                  refine st_append (by rfl) (N := 104) rfl (.tmp 99) (.tmp 103) 22 rfl V.heap.size 0 32 i0 _ 7 88 Tryd.underlying22 hi hz0 hz1 hz2 rfl (by decide) _ 0 [] rfl o99b _ L.length (cellsL L) rfl (own_move AVS.out (fun k hk => (hHeld.block k (Nat.lt_of_lt_of_le (HR.out.own.lt k hk).2 HV.out.size)).trans (HV.out.block k (HR.out.own.lt k hk).2))) (cellsL_one L) (by have := HN.out; unfold maxLen; omega) (by have := HN.out; omega) hHeld.size ?_
                  intro v104 w3 o104 hg hat
                  rw [Nat.zero_add, List.nil_append] at o104
                  have hb := hHeld.grown hg hHeld.size (own_base o99b)
                  refine hK.out _ _ (hb) (fun hHeld => ?_)
                  clear hK K
                  have hs_w3 := hHeld.size
                  refine norm_ (a' := ?_) ?_ ?_
                  rotate_left
                  · show Act.put _ (some 104) _ = _
                    simp only [Act.put, List.setIfInBounds_toArray, List.set_cons_zero, List.set_cons_succ, i64_w, i32_w]
                    rfl
                  exact norm_ (by simp only [putAll, Act.put, List.setIfInBounds_toArray, List.set_cons_zero, List.set_cons_succ, i64_w, i32_w]) (hcont (.slice (some ⟨g99, 0, none⟩) 0 0, v104, .slice (some ⟨g106, 0, none⟩) 1 1) _ ⟨o104, (own_less (own_move o106c (fun k hk => hg.block k (o106c.lt k hk).2 (fun e => by have h1 := own_base o99 k e.symm; have h2 := (o106.lt k hk).2; omega))) (Nat.le_refl _)), hHeld⟩)
              rintro ⟨v99, v104, v106⟩ w3 ⟨o104, o106, hHeld⟩
              dsimp only at o104 o106
              obtain ⟨A4, c4, rfl⟩ := own_slice o104
              obtain ⟨A6, c6, rfl⟩ := own_slice o106
              refine norm_ (a' := ?_) ?_ ?_
              rotate_left
              · simp only [putAll, Act.put, List.setIfInBounds_toArray, List.set_cons_zero, List.set_cons_succ, i64_w, i32_w]
                rfl
              refine one_ (i := 9) (N := some 107) #[true, true, true, true, true, true, true, true, true, true, false, false, false] rfl rfl (by kernel_rfl) (by decide) (fun K hK => ?_)
              refine st_append (by rfl) (N := 107) rfl (.tmp 104) (.tmp 106) 22 rfl V.heap.size V.heap.size 32 i0 _ 7 88 Tryd.underlying22 hi hz0 hz1 hz2 rfl (by decide) _ L.length (cellsL L) rfl o104 _ 1 (vcells v).toList rfl o106 (vcells_one v) (by have := HN.out; unfold maxLen; omega) (by have := HN.out; omega) hHeld.size ?_
              intro v107 w4 o107 hg hat
              obtain ⟨A7, c7, rfl⟩ := own_slice o107
              have hb := hHeld.grown hg hHeld.size (own_base o104)
              refine hK.out _ _ hb (fun hHeld => ?_)
              clear hK K
              refine norm_ (a' := ?_) ?_ ?_
              rotate_left
              · show Act.put _ (some 107) _ = _
                simp only [Act.put, List.setIfInBounds_toArray, List.set_cons_zero, List.set_cons_succ, i64_w, i32_w]
                rfl
              refine pure_ (i := 10) (N := some 108) (v := ?_) (a' := ?_) #[true, true, true, true, true, true, true, true, true, true, true, false, false] rfl rfl (by kernel_rfl) (fun _ _ _ h => h) (Or.inl ⟨by rfl, ?_⟩) ?_ ?_
              rotate_left
              · intro w'
                go_simp
                with_reducible rfl
              rotate_left
              · simp only [Act.put, List.setIfInBounds_toArray, List.set_cons_zero, List.set_cons_succ, i64_w, i32_w]
                rfl
              refine pure_ (i := 11) (N := some 109) (v := ?_) (a' := ?_) #[true, true, true, true, true, true, true, true, true, true, true, true, false] rfl rfl (by kernel_rfl) (fun _ _ _ h => h) (Or.inl ⟨by rfl, ?_⟩) ?_ ?_
              rotate_left
              · intro w'
                go_simp
                with_reducible rfl
              rotate_left
              · simp only [Act.put, List.setIfInBounds_toArray, List.set_cons_zero, List.set_cons_succ, i64_w, i32_w]
                rfl
              have c4 := (hb.cell (p := ⟨b, 0, none⟩) (Nat.lt_of_lt_of_le LB.out HV.out.size)).trans c0
              have f4 := (World.frozen?_of_block (a := ⟨b, 0, none⟩) (hb.block b (Nat.lt_of_lt_of_le LB.out HV.out.size))).trans ((World.frozen?_of_block (a := ⟨b, 0, none⟩) (HV.out.block b LB.out)).trans F0.out)
              refine last_ (i := 12) (N := none) #[true, true, true, true, true, true, true, true, true, true, true, true, true] rfl rfl (by kernel_rfl) (by decide) (fun K hK => ?_)
              have HFIN := Aside0.mk (ref_stored HR.out HV.out hb o107 HD.out)
              clear hg hat o104 o106 o107 hHeld hb
              go_simp
              refine hK.out _ _ ?_
              clear hK K
              refine done_ (by kernel_rfl) ?_
              go_wp2
              go_ret
              exact ⟨by rw [HD.out]; rfl, HFIN.out⟩
            · have e6 : (v.f6.toList == ([] : List UInt8)) = false := beq_eq_false_iff_ne.2 h6
              have e7 : (v.f6.toList != ([] : List UInt8)) = true := bne_iff_ne.2 h6
              have HD : Aside0 (dec L v = 11) := ⟨by rw [dec_none HVD.out HNO.out HLA.out HCN.out, if_neg h6]⟩
              clear h6
              go_wp2_with (go_at_call 26; go_loud (refine (ref_at _ G b L _ c v.f1 v.f2 (HR.out.below HV.out) HN.out).mono ?_; rintro e w5 ⟨he, rfl⟩; rw [HIX.out] at he; subst he))
              go_ret
              exact ⟨by rw [HD.out]; rfl, ref_left HR.out (by repeat (first | exact HV.out | apply below_drew1 | apply pw_below_drewN)) HD.out (by decide)⟩
          · have HIX := Aside0.mk hx
            have HLJ := Aside0.mk hj
            have HCS : Aside0 (cur L v.f1 v.f2 = some (rd_T32 L (j : Int))) := ⟨by rw [rd_get L j hj]; exact hc⟩
            clear hx hj hc
            refine ex_gen (fun V => V.heap[gb]? = some (.cells #[.string v.f0, .string v.f1, .string v.f2, .int .i64 v.f3, .int .i64 v.f4, .bool v.f5, .string v.f6] 32 (0, 0)) ∧ Below w.heap.size w V) ⟨(by repeat (first | exact BX.out | apply blk_drew | apply blk_drewN)), (by repeat (first | exact HX.out | apply below_drew1 | apply pw_below_drewN))⟩ ?_
            clear z0 z1 z2 z3 z4 z5 z6 c0 HX BX
            rintro V ⟨BKv, HV⟩
            replace BKv := Aside0.mk BKv
            replace HV := Aside0.mk HV
            have z0 := (blk_cell BKv.out 0).trans rfl
            have z1 := (blk_cell BKv.out 1).trans rfl
            have z2 := (blk_cell BKv.out 2).trans rfl
            have z3 := (blk_cell BKv.out 3).trans rfl
            have z4 := (blk_cell BKv.out 4).trans rfl
            have z5 := (blk_cell BKv.out 5).trans rfl
            have z6 := (blk_cell BKv.out 6).trans rfl
            have c0 := (HV.out.cell (p := ⟨b, 0, none⟩) LB.out).trans C0.out
            have e8 : decide ((j : Int) < 0) = false := decide_eq_false (by omega)
            have e9 : decide (0 ≤ (j : Int)) = true := decide_eq_true (by omega)
            have p0 : (0 ≤ (j : Int)) = True := eq_true (by omega)
            have p5 : ((j : Int) < 0) = False := eq_false (by omega)
            have p2 : ((j : Int) < (L.length : Int)) = True := eq_true (by have := HLJ.out; omega)
            obtain ⟨ad1, hA1, x0, x1, x2, x3, x4, x5, x6⟩ := at_T32 (Kd.C_below HC.out HV.out) (j : Int) (Int.natCast_nonneg j) (by have := HLJ.out; omega); cases hA1; simp only [Int.toNat_natCast] at x0 x1 x2 x3 x4 x5 x6
            by_cases h6 : (rd_T32 L (j : Int)).f0.toList = v.f6.toList
            · have e6 : ((rd_T32 L (j : Int)).f0.toList == v.f6.toList) = true := beq_iff_eq.2 h6
              have e7 : ((rd_T32 L (j : Int)).f0.toList != v.f6.toList) = false := bne_eq_false_iff_eq.2 h6
              have HDS := Aside0.mk (dec_some HVD.out HNO.out HLA.out HCS.out)
              have H6 := Aside0.mk h6
              clear h6
              rcases h5 : (rd_T32 L (j : Int)).f5 with _ | _
              · have HD : Aside0 (dec L v = 0) := ⟨by rw [HDS.out, if_neg (by simp [H6.out]), h5]; rfl⟩
                rw [h5] at x5
                clear h5
                go_wp2_with (go_at_call 26; go_loud (refine (ref_at _ G b L _ c v.f1 v.f2 (HR.out.below HV.out) HN.out).mono ?_; rintro e w5 ⟨he, rfl⟩; rw [HIX.out] at he; subst he))
                go_quiet (fail)
                go_wp2
                clear x0 x1 x2 x3 x4 x5 x6
                refine wp_gen (fun V => V.heap[gb]? = some (.cells #[.string v.f0, .string v.f1, .string v.f2, .int .i64 v.f3, .int .i64 v.f4, .bool v.f5, .string v.f6] 32 (0, 0)) ∧ Below w.heap.size w V) ⟨(by repeat (first | exact BKv.out | apply blk_drew | apply blk_drewN)), (by repeat (first | exact HV.out | apply below_drew1 | apply pw_below_drewN))⟩ ?_
                clear z0 z1 z2 z3 z4 z5 z6 c0 HV BKv
                rintro V ⟨BKv, HV⟩
                replace BKv := Aside0.mk BKv
                replace HV := Aside0.mk HV
                have z0 := (blk_cell BKv.out 0).trans rfl
                have z1 := (blk_cell BKv.out 1).trans rfl
                have z2 := (blk_cell BKv.out 2).trans rfl
                have z3 := (blk_cell BKv.out 3).trans rfl
                have z4 := (blk_cell BKv.out 4).trans rfl
                have z5 := (blk_cell BKv.out 5).trans rfl
                have z6 := (blk_cell BKv.out 6).trans rfl
                have c0 := (HV.out.cell (p := ⟨b, 0, none⟩) LB.out).trans C0.out
                have SV := Aside0.mk (Below.refl V.heap.size V)
                have AVS := Aside0.mk (HR.out.own)
                refine start_ (n := 13) (S := fun w' => Below V.heap.size V w') (ds := [12]) #[false, false, false, false, false, false, false, false, false, false, false, false, false] (by kernel_rfl) rfl rfl (Below.refl V.heap.size V).drew (fun hHeld => ?_)
                refine pure_ (i := 0) (N := some 98) (v := ?_) (a' := ?_) #[true, false, false, false, false, false, false, false, false, false, false, false, false] rfl rfl (by kernel_rfl) (fun _ _ _ h => h) (Or.inl ⟨by rfl, ?_⟩) ?_ ?_
                rotate_left
                · intro w'
                  go_simp
                  with_reducible rfl
                rotate_left
                · simp only [Act.put, List.setIfInBounds_toArray, List.set_cons_zero, List.set_cons_succ, i64_w, i32_w]
                  rfl
                refine pure_ (i := 2) (N := some 100) (v := ?_) (a' := ?_) #[true, false, true, false, false, false, false, false, false, false, false, false, false] rfl rfl (by kernel_rfl) (fun _ _ _ h => h) (Or.inl ⟨by rfl, ?_⟩) ?_ ?_
                rotate_left
                · intro w'
                  go_simp
                  with_reducible rfl
                rotate_left
                · simp only [Act.put, List.setIfInBounds_toArray, List.set_cons_zero, List.set_cons_succ, i64_w, i32_w]
                  rfl
                refine pure_ (i := 3) (N := some 101) (v := ?_) (a' := ?_) #[true, false, true, true, false, false, false, false, false, false, false, false, false] rfl rfl (by kernel_rfl) (fun _ _ _ h => h) (Or.inl ⟨by rfl, ?_⟩) ?_ ?_
                rotate_left
                · intro w'
                  go_simp
                  with_reducible rfl
                rotate_left
                · simp only [Act.put, List.setIfInBounds_toArray, List.set_cons_zero, List.set_cons_succ, i64_w, i32_w]
                  rfl
                refine pure_ (i := 4) (N := some 102) (v := ?_) (a' := ?_) #[true, false, true, true, true, false, false, false, false, false, false, false, false] rfl rfl (by kernel_rfl) (fun _ _ _ h => h) (Or.inl ⟨by rfl, ?_⟩) ?_ ?_
                rotate_left
                · intro w'
                  go_simp
                  with_reducible rfl
                rotate_left
                · simp only [Act.put, List.setIfInBounds_toArray, List.set_cons_zero, List.set_cons_succ, i64_w, i32_w]
                  rfl
                refine take_ (i := 5) (N := some 103) (v := ?_) (a' := ?_) #[true, false, true, true, true, true, false, false, false, false, false, false, false] rfl rfl (by kernel_rfl) (fun _ _ _ h => h) (Or.inl ⟨by rfl, ?_⟩) hHeld ?_ ?_
                rotate_left
                · rintro w' hS
                  have c0 := (hS.cell (p := ⟨b, 0, none⟩) (Nat.lt_of_lt_of_le LB.out HV.out.size)).trans c0
                  go_simp
                  with_reducible rfl
                rotate_left
                · simp only [Act.put, List.setIfInBounds_toArray, List.set_cons_zero, List.set_cons_succ, i64_w, i32_w]
                  rfl
                refine take_ (i := 7) (N := some 105) (v := ?_) (a' := ?_) #[true, false, true, true, true, true, false, true, false, false, false, false, false] rfl rfl (by kernel_rfl) (fun _ _ _ h => h) (Or.inl ⟨by rfl, ?_⟩) hHeld ?_ ?_
                rotate_left
                · rintro w' hS
                  have HBK := blk_below BKv.out hS
                  have z0 := (blk_cell HBK 0).trans rfl
                  have z1 := (blk_cell HBK 1).trans rfl
                  have z2 := (blk_cell HBK 2).trans rfl
                  have z3 := (blk_cell HBK 3).trans rfl
                  have z4 := (blk_cell HBK 4).trans rfl
                  have z5 := (blk_cell HBK 5).trans rfl
                  have z6 := (blk_cell HBK 6).trans rfl
                  go_simp
                  with_reducible rfl
                rotate_left
                · simp only [Act.put, List.setIfInBounds_toArray, List.set_cons_zero, List.set_cons_succ, i64_w, i32_w]
                  rfl
                refine join_ (σ := Value × Value × Value) 4 #[true, true, true, true, true, true, true, true, true, false, false, false, false] (fun s => [(99, s.1), (104, s.2.1), (106, s.2.2)]) (fun s w3 => w3.ownsRow V.heap.size 32 7 s.2.1 L.length (cellsL L) ∧ w3.ownsRow V.heap.size 32 7 s.2.2 1 (vcells v).toList ∧ Below V.heap.size V w3) ?_ ?_
                rotate_left
                · intro hcont
                  refine two_ (i := 1) (j := 8) (Ni := some 99) (Nj := some 106) #[true, true, true, true, true, true, false, true, false, false, false, false, false] #[true, false, true, true, true, true, false, true, true, false, false, false, false] rfl rfl rfl rfl (by kernel_rfl) (by decide) (by decide) (fun K hK => ?_) (fun K hK => ?_)
                  · skip
                    refine st_build 0 #[] (by rfl) (by decide) (by rfl) (N := 99) rfl ?hr ?_
                    case hr => first | (go_simp; done) | (go_simp; rfl) | (simp; done)
                    intro g99 w1 o99 hb
                    refine hK.out _ _ (below_step hHeld hb) (fun hHeld => ?_)
                    clear hK K
                    have hs_w1 := hHeld.size
                    refine norm_ (a' := ?_) ?_ ?_
                    rotate_left
                    · show Act.put _ (some 99) _ = _
                      simp only [Act.put, List.setIfInBounds_toArray, List.set_cons_zero, List.set_cons_succ, i64_w, i32_w]
                      rfl
                    have o99b : w1.ownsRow V.heap.size 32 7 (.slice (some ⟨g99, 0, none⟩) 0 0) 0 [] := own_less o99 (Nat.le_refl _)
                    refine two_ (i := 6) (j := 8) (Ni := some 104) (Nj := some 106) #[true, true, true, true, true, true, true, true, false, false, false, false, false] #[true, true, true, true, true, true, false, true, true, false, false, false, false] rfl rfl rfl rfl (by kernel_rfl) (by decide) (by decide) (fun K hK => ?_) (fun K hK => ?_)
                    · skip
                      refine st_append (by rfl) (N := 104) rfl (.tmp 99) (.tmp 103) 22 rfl V.heap.size 0 32 i0 _ 7 88 Tryd.underlying22 hi hz0 hz1 hz2 rfl (by decide) _ 0 [] rfl o99b _ L.length (cellsL L) rfl (own_move AVS.out (fun k hk => (hHeld.block k (Nat.lt_of_lt_of_le (HR.out.own.lt k hk).2 HV.out.size)).trans (HV.out.block k (HR.out.own.lt k hk).2))) (cellsL_one L) (by have := HN.out; unfold maxLen; omega) (by have := HN.out; omega) hHeld.size ?_
                      intro v104 w2 o104 hg hat
                      rw [Nat.zero_add, List.nil_append] at o104
                      have hb := hHeld.grown hg hHeld.size (own_base o99b)
                      refine hK.out _ _ (hb) (fun hHeld => ?_)
                      clear hK K
                      have hs_w2 := hHeld.size
                      refine norm_ (a' := ?_) ?_ ?_
                      rotate_left
                      · show Act.put _ (some 104) _ = _
                        simp only [Act.put, List.setIfInBounds_toArray, List.set_cons_zero, List.set_cons_succ, i64_w, i32_w]
                        rfl
                      refine one_ (i := 8) (N := some 106) #[true, true, true, true, true, true, true, true, true, false, false, false, false] rfl rfl (by kernel_rfl) (by decide) (fun K hK => ?_)
                      refine st_build 1 #[.string v.f0, .string v.f1, .string v.f2, .int .i64 v.f3, .int .i64 v.f4, .bool v.f5, .string v.f6] (by rfl) (by decide) (by rfl) (N := 106) rfl ?hr ?_
                      case hr => first | (go_simp; done) | (go_simp; rfl) | (simp; done)
                      intro g106 w3 o106 hb
                      refine hK.out _ _ (below_step hHeld hb) (fun hHeld => ?_)
                      clear hK K
                      have hs_w3 := hHeld.size
                      refine norm_ (a' := ?_) ?_ ?_
                      rotate_left
                      · show Act.put _ (some 106) _ = _
                        simp only [Act.put, List.setIfInBounds_toArray, List.set_cons_zero, List.set_cons_succ, i64_w, i32_w]
                        rfl
                      exact norm_ (by simp only [putAll, Act.put, List.setIfInBounds_toArray, List.set_cons_zero, List.set_cons_succ, i64_w, i32_w]) (hcont (.slice (some ⟨g99, 0, none⟩) 0 0, v104, .slice (some ⟨g106, 0, none⟩) 1 1) _ ⟨(own_move o104 (fun k hk => hb.block k (o104.lt k hk).2)), (own_less o106 hs_w2), hHeld⟩)
                    · skip
                      refine st_build 1 #[.string v.f0, .string v.f1, .string v.f2, .int .i64 v.f3, .int .i64 v.f4, .bool v.f5, .string v.f6] (by rfl) (by decide) (by rfl) (N := 106) rfl ?hr ?_
                      case hr => first | (go_simp; done) | (go_simp; rfl) | (simp; done)
                      intro g106 w2 o106 hb
                      refine hK.out _ _ (below_step hHeld hb) (fun hHeld => ?_)
                      clear hK K
                      have hs_w2 := hHeld.size
                      refine norm_ (a' := ?_) ?_ ?_
                      rotate_left
                      · show Act.put _ (some 106) _ = _
                        simp only [Act.put, List.setIfInBounds_toArray, List.set_cons_zero, List.set_cons_succ, i64_w, i32_w]
                        rfl
                      have o99c := own_move o99b (fun k hk => hb.block k (o99b.lt k hk).2)
                      refine one_ (i := 6) (N := some 104) #[true, true, true, true, true, true, true, true, true, false, false, false, false] rfl rfl (by kernel_rfl) (by decide) (fun K hK => ?_)
                      have o106b := o106
                      refine st_append (by rfl) (N := 104) rfl (.tmp 99) (.tmp 103) 22 rfl V.heap.size 0 32 i0 _ 7 88 Tryd.underlying22 hi hz0 hz1 hz2 rfl (by decide) _ 0 [] rfl o99c _ L.length (cellsL L) rfl (own_move AVS.out (fun k hk => (hHeld.block k (Nat.lt_of_lt_of_le (HR.out.own.lt k hk).2 HV.out.size)).trans (HV.out.block k (HR.out.own.lt k hk).2))) (cellsL_one L) (by have := HN.out; unfold maxLen; omega) (by have := HN.out; omega) hHeld.size ?_
                      intro v104 w3 o104 hg hat
                      rw [Nat.zero_add, List.nil_append] at o104
                      have hb := hHeld.grown hg hHeld.size (own_base o99c)
                      refine hK.out _ _ (hb) (fun hHeld => ?_)
                      clear hK K
                      have hs_w3 := hHeld.size
                      refine norm_ (a' := ?_) ?_ ?_
                      rotate_left
                      · show Act.put _ (some 104) _ = _
                        simp only [Act.put, List.setIfInBounds_toArray, List.set_cons_zero, List.set_cons_succ, i64_w, i32_w]
                        rfl
                      exact norm_ (by simp only [putAll, Act.put, List.setIfInBounds_toArray, List.set_cons_zero, List.set_cons_succ, i64_w, i32_w]) (hcont (.slice (some ⟨g99, 0, none⟩) 0 0, v104, .slice (some ⟨g106, 0, none⟩) 1 1) _ ⟨o104, (own_less (own_move o106 (fun k hk => hg.block k (o106.lt k hk).2 (fun e => by have h1 := own_base o106 k hk; have h2 := (o99b.lt k e.symm).2; omega))) hs_w1), hHeld⟩)
                  · skip
                    refine st_build 1 #[.string v.f0, .string v.f1, .string v.f2, .int .i64 v.f3, .int .i64 v.f4, .bool v.f5, .string v.f6] (by rfl) (by decide) (by rfl) (N := 106) rfl ?hr ?_
                    case hr => first | (go_simp; done) | (go_simp; rfl) | (simp; done)
                    intro g106 w1 o106 hb
                    refine hK.out _ _ (below_step hHeld hb) (fun hHeld => ?_)
                    clear hK K
                    have hs_w1 := hHeld.size
                    refine norm_ (a' := ?_) ?_ ?_
                    rotate_left
                    · show Act.put _ (some 106) _ = _
                      simp only [Act.put, List.setIfInBounds_toArray, List.set_cons_zero, List.set_cons_succ, i64_w, i32_w]
                      rfl
                    refine one_ (i := 1) (N := some 99) #[true, true, true, true, true, true, false, true, true, false, false, false, false] rfl rfl (by kernel_rfl) (by decide) (fun K hK => ?_)
                    have o106b := o106
                    refine st_build 0 #[] (by rfl) (by decide) (by rfl) (N := 99) rfl ?hr ?_
                    case hr => first | (go_simp; done) | (go_simp; rfl) | (simp; done)
                    intro g99 w2 o99 hb
                    refine hK.out _ _ (below_step hHeld hb) (fun hHeld => ?_)
                    clear hK K
                    have hs_w2 := hHeld.size
                    refine norm_ (a' := ?_) ?_ ?_
                    rotate_left
                    · show Act.put _ (some 99) _ = _
                      simp only [Act.put, List.setIfInBounds_toArray, List.set_cons_zero, List.set_cons_succ, i64_w, i32_w]
                      rfl
                    have o106c := own_move o106 (fun k hk => hb.block k (o106.lt k hk).2)
                    have o99b : w2.ownsRow V.heap.size 32 7 (.slice (some ⟨g99, 0, none⟩) 0 0) 0 [] := own_less o99 hs_w1
                    refine one_ (i := 6) (N := some 104) #[true, true, true, true, true, true, true, true, true, false, false, false, false] rfl rfl (by kernel_rfl) (by decide) (fun K hK => ?_)
                    refine st_append (by rfl) (N := 104) rfl (.tmp 99) (.tmp 103) 22 rfl V.heap.size 0 32 i0 _ 7 88 Tryd.underlying22 hi hz0 hz1 hz2 rfl (by decide) _ 0 [] rfl o99b _ L.length (cellsL L) rfl (own_move AVS.out (fun k hk => (hHeld.block k (Nat.lt_of_lt_of_le (HR.out.own.lt k hk).2 HV.out.size)).trans (HV.out.block k (HR.out.own.lt k hk).2))) (cellsL_one L) (by have := HN.out; unfold maxLen; omega) (by have := HN.out; omega) hHeld.size ?_
                    intro v104 w3 o104 hg hat
                    rw [Nat.zero_add, List.nil_append] at o104
                    have hb := hHeld.grown hg hHeld.size (own_base o99b)
                    refine hK.out _ _ (hb) (fun hHeld => ?_)
                    clear hK K
                    have hs_w3 := hHeld.size
                    refine norm_ (a' := ?_) ?_ ?_
                    rotate_left
                    · show Act.put _ (some 104) _ = _
                      simp only [Act.put, List.setIfInBounds_toArray, List.set_cons_zero, List.set_cons_succ, i64_w, i32_w]
                      rfl
                    exact norm_ (by simp only [putAll, Act.put, List.setIfInBounds_toArray, List.set_cons_zero, List.set_cons_succ, i64_w, i32_w]) (hcont (.slice (some ⟨g99, 0, none⟩) 0 0, v104, .slice (some ⟨g106, 0, none⟩) 1 1) _ ⟨o104, (own_less (own_move o106c (fun k hk => hg.block k (o106c.lt k hk).2 (fun e => by have h1 := own_base o99 k e.symm; have h2 := (o106.lt k hk).2; omega))) (Nat.le_refl _)), hHeld⟩)
                rintro ⟨v99, v104, v106⟩ w3 ⟨o104, o106, hHeld⟩
                dsimp only at o104 o106
                obtain ⟨A4, c4, rfl⟩ := own_slice o104
                obtain ⟨A6, c6, rfl⟩ := own_slice o106
                refine norm_ (a' := ?_) ?_ ?_
                rotate_left
                · simp only [putAll, Act.put, List.setIfInBounds_toArray, List.set_cons_zero, List.set_cons_succ, i64_w, i32_w]
                  rfl
                refine one_ (i := 9) (N := some 107) #[true, true, true, true, true, true, true, true, true, true, false, false, false] rfl rfl (by kernel_rfl) (by decide) (fun K hK => ?_)
                refine st_append (by rfl) (N := 107) rfl (.tmp 104) (.tmp 106) 22 rfl V.heap.size V.heap.size 32 i0 _ 7 88 Tryd.underlying22 hi hz0 hz1 hz2 rfl (by decide) _ L.length (cellsL L) rfl o104 _ 1 (vcells v).toList rfl o106 (vcells_one v) (by have := HN.out; unfold maxLen; omega) (by have := HN.out; omega) hHeld.size ?_
                intro v107 w4 o107 hg hat
                obtain ⟨A7, c7, rfl⟩ := own_slice o107
                have hb := hHeld.grown hg hHeld.size (own_base o104)
                refine hK.out _ _ hb (fun hHeld => ?_)
                clear hK K
                refine norm_ (a' := ?_) ?_ ?_
                rotate_left
                · show Act.put _ (some 107) _ = _
                  simp only [Act.put, List.setIfInBounds_toArray, List.set_cons_zero, List.set_cons_succ, i64_w, i32_w]
                  rfl
                refine pure_ (i := 10) (N := some 108) (v := ?_) (a' := ?_) #[true, true, true, true, true, true, true, true, true, true, true, false, false] rfl rfl (by kernel_rfl) (fun _ _ _ h => h) (Or.inl ⟨by rfl, ?_⟩) ?_ ?_
                rotate_left
                · intro w'
                  go_simp
                  with_reducible rfl
                rotate_left
                · simp only [Act.put, List.setIfInBounds_toArray, List.set_cons_zero, List.set_cons_succ, i64_w, i32_w]
                  rfl
                refine pure_ (i := 11) (N := some 109) (v := ?_) (a' := ?_) #[true, true, true, true, true, true, true, true, true, true, true, true, false] rfl rfl (by kernel_rfl) (fun _ _ _ h => h) (Or.inl ⟨by rfl, ?_⟩) ?_ ?_
                rotate_left
                · intro w'
                  go_simp
                  with_reducible rfl
                rotate_left
                · simp only [Act.put, List.setIfInBounds_toArray, List.set_cons_zero, List.set_cons_succ, i64_w, i32_w]
                  rfl
                have c4 := (hb.cell (p := ⟨b, 0, none⟩) (Nat.lt_of_lt_of_le LB.out HV.out.size)).trans c0
                have f4 := (World.frozen?_of_block (a := ⟨b, 0, none⟩) (hb.block b (Nat.lt_of_lt_of_le LB.out HV.out.size))).trans ((World.frozen?_of_block (a := ⟨b, 0, none⟩) (HV.out.block b LB.out)).trans F0.out)
                refine last_ (i := 12) (N := none) #[true, true, true, true, true, true, true, true, true, true, true, true, true] rfl rfl (by kernel_rfl) (by decide) (fun K hK => ?_)
                have HFIN := Aside0.mk (ref_stored HR.out HV.out hb o107 HD.out)
                clear hg hat o104 o106 o107 hHeld hb
                go_simp
                refine hK.out _ _ ?_
                clear hK K
                refine done_ (by kernel_rfl) ?_
                go_wp2
                go_ret
                exact ⟨by rw [HD.out]; rfl, HFIN.out⟩
              · have HD : Aside0 (dec L v = 22) := ⟨by rw [HDS.out, if_neg (by simp [H6.out]), h5]; rfl⟩
                rw [h5] at x5
                clear h5
                go_wp2_with (go_at_call 26; go_loud (refine (ref_at _ G b L _ c v.f1 v.f2 (HR.out.below HV.out) HN.out).mono ?_; rintro e w5 ⟨he, rfl⟩; rw [HIX.out] at he; subst he))
                go_quiet (fail)
                go_wp2
                go_ret
                exact ⟨by rw [HD.out]; rfl, ref_left HR.out (by repeat (first | exact HV.out | apply below_drew1 | apply pw_below_drewN)) HD.out (by decide)⟩
            · have e6 : ((rd_T32 L (j : Int)).f0.toList == v.f6.toList) = false := beq_eq_false_iff_ne.2 h6
              have e7 : ((rd_T32 L (j : Int)).f0.toList != v.f6.toList) = true := bne_iff_ne.2 h6
              have HD : Aside0 (dec L v = 12) := ⟨by rw [dec_some HVD.out HNO.out HLA.out HCS.out, if_pos h6]⟩
              clear h6
              go_wp2_with (go_at_call 26; go_loud (refine (ref_at _ G b L _ c v.f1 v.f2 (HR.out.below HV.out) HN.out).mono ?_; rintro e w5 ⟨he, rfl⟩; rw [HIX.out] at he; subst he))
              go_quiet (fail)
              go_wp2
              go_ret
              exact ⟨by rw [HD.out]; rfl, ref_left HR.out (by repeat (first | exact HV.out | apply below_drew1 | apply pw_below_drewN)) HD.out (by decide)⟩
        · have HD := Aside0.mk (dec_order HVD.out HNO.out (hll.trans hd4))
          clear hll
          go_wp2
          go_quiet (fail)
          go_wp2
          go_ret
          exact ⟨by rw [HD.out]; rfl, ref_left HR.out (by repeat (first | exact HX.out | apply below_drew1 | apply pw_below_drewN)) HD.out (by decide)⟩
end Go.Proofs.YtbmmedoopjjbkaaDoor.Fin
