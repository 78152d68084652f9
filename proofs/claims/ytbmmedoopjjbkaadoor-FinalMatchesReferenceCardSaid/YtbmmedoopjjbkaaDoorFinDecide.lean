/- Decide, walked: what it answers, and what it leaves in memory. -/
import Derived.Test.YtbmmedoopjjbkaaDoorFinBase
import Derived.StillTailTactics
import Derived.RegionTactic
import Derived.BigRegion
import Derived.Deep.RegionLaw
namespace Go.Proofs.YtbmmedoopjjbkaaDoor.Fin
open Go.RowKit Go.Proofs.YtbmmedoopjjbkaaDoor.H Go.Proofs.YtbmmedoopjjbkaaDoorW.PrintWords Go.Proofs.YtbmmedoopjjbkaaDoorW.PrintLast Go.Proofs.YtbmmedoopjjbkaaDoorW.PrintMore
set_option linter.unusedVariables false
attribute [local go_sem] Oper.semAt_some

theorem ownsMap_at {w W : World} {P : Program} {k : TypeId} {R : Value → Option (DataW Value × List MemPlace)} {b n : Nat} {D : DataW Value} (h : w.ownsMap P k R b n D) (e : W.heap[b]? = w.heap[b]?) : W.ownsMap P k R b n D := by
  obtain ⟨es, clock, hb, r⟩ := h
  exact ⟨es, clock, e.trans hb, r⟩
set_option maxRecDepth 100000 in
set_option maxHeartbeats 4000000 in
theorem decide_raw (w : World) (b bi bs : Nat) (A : Option Addr) (n c : Nat) (v : S32) (tw fin : Bool) (q1 q2 oid : ByteArray) (po : Option Addr) (day : Int)
    (hv : ∀ w, Calls Tryd.prog 24 #[.agg (vcells v)] w fun e w' => e = .returned (.bool true) ∧ Below w.heap.size w w')
    (c0 : w.cell? ⟨b, 0, none⟩ = some (.slice A n c)) (c1 : w.cell? ⟨b, 1, none⟩ = some (.map (some bi))) (c2 : w.cell? ⟨b, 2, none⟩ = some (.map (some bs))) (f0 : w.frozen? ⟨b, 0, none⟩ = false)
    (xs : List Value) (hown : w.ownsRow 0 32 7 (.slice A n c) n xs) (hob : ∀ g, (Value.slice A n c).ownBlock = some g → g ≠ b ∧ g ≠ bi ∧ g ≠ bs ∧ g < w.heap.size) (hn : n ≤ 1000000000) (hlast : ∀ m, n = m + 1 → ∃ ad : Addr, A = some ad ∧ ad.block < w.heap.size ∧ w.cell? ⟨(ad.add (m * 7)).block, (ad.add (m * 7)).off + 4, none⟩ = some (.int .i64 day))
    (hL : ∀ w' : World, w'.heap[bs]? = w.heap[bs]? → (Instr.lookup 44 (.map (some bs)) (.agg #[.string v.f1, .string v.f2]) false).run Tryd.prog w' = .ok (.pointer po) w')
    (hI : ∀ w' : World, w'.heap[bi]? = w.heap[bi]? → (Instr.lookup 43 (.map (some bi)) (.string v.f0) true).run Tryd.prog w' = .ok (.tuple #[.agg #[.string q1, .string q2], .bool tw]) w')
    (hpo : ∀ p, po = some p → ∃ g, p = ⟨g, 0, none⟩ ∧ g < w.heap.size ∧ w.cell? ⟨g, 0, none⟩ = some (.string oid) ∧ w.cell? ⟨g, 5, none⟩ = some (.bool fin))
    (lb : b < w.heap.size) (li : bi < w.heap.size) (ls : bs < w.heap.size) (n1 n2 : Nat) (Di Ds : DataW Value) (kl : Lit) (hk : keyOf Tryd.prog 51 (.agg #[.string v.f1, .string v.f2]) = some kl) (hs0 : v.f0.size ≤ maxLen) (K51 : Maps.Keyed Tryd.prog 51) (hn1 : n1 < maxLen) (hn2 : n2 < maxLen) (hbb : bi ≠ bs ∧ b ≠ bi ∧ b ≠ bs)
    (hmi : w.ownsMap Tryd.prog 9 RV bi n1 Di) (hms : w.ownsMap Tryd.prog 51 RV bs n2 Ds) :
    Calls Tryd.prog 13 #[.pointer (some ⟨b, 0, none⟩), .agg (vcells v)] w fun e w' => ∃ code, e = .returned (.int .i64 code) ∧ Dec n v day tw po oid fin code ∧ (code ≠ 0 → Below w.heap.size w w') ∧ (code = 0 → OKW w w' b bi bs A n c v xs n1 n2 Di Ds kl) := by
  unfold vcells at hv ⊢
  have HB := Aside0.mk (Below.refl w.heap.size w)
  have C0 := Aside0.mk c0
  have C1 := Aside0.mk c1
  have C2 := Aside0.mk c2
  have HL := Aside0.mk hlast
  have HN := Aside0.mk hn
  have HP := Aside0.mk hpo
  have HO := Aside0.mk hown
  have HG := Aside0.mk hob
  clear hown hob
  have HK := Aside0.mk hk
  have HS0 := Aside0.mk hs0
  have HK51 := Aside0.mk K51
  have HN1 := Aside0.mk hn1
  have HN2 := Aside0.mk hn2
  have HBB := Aside0.mk hbb
  have HMI := Aside0.mk hmi
  have HMS := Aside0.mk hms
  clear hk hs0 K51 hn1 hn2 hbb hmi hms
  have F0 := Aside0.mk f0
  clear f0
  clear c0 c1 c2 hlast hn hpo
  go_enter Tryd.func13, Tryd.ntmps13
  go_wp2_with (first | ((with_reducible refine gate_dst (N := 3) rfl ?_); refine box_event ?hg (N := 3) ?hd (cs := #[.string v.f0, .string v.f1, .string v.f2, .int .i64 v.f3, .int .i64 v.f4, .bool v.f5, .string v.f6]) (t := 32) ?hr ?_; (case hd => rfl); (case hg => rfl); (case hr => first | (go_simp; done) | (go_simp; rfl)); intro gb hg w1 hbox hb; have HB1 := Aside0.mk (below_step HB.out hb); have BKv := Aside0.mk hbox; have GV := Aside0.mk ((by rw [hg]; exact Nat.le_refl _) : w.heap.size ≤ gb); clear hbox hg hb; have z0 := (blk_cell BKv.out 0).trans rfl; have z1 := (blk_cell BKv.out 1).trans rfl; have z2 := (blk_cell BKv.out 2).trans rfl; have z3 := (blk_cell BKv.out 3).trans rfl; have z4 := (blk_cell BKv.out 4).trans rfl; have z5 := (blk_cell BKv.out 5).trans rfl; have z6 := (blk_cell BKv.out 6).trans rfl) | ((with_reducible refine gate_dst (N := 14) rfl ?_); (try (refine gate_guard (by rfl) ?_; dsimp only)); refine goesL_ (some 14) rfl rfl Tryd.func24 (by kernel_rfl) rfl #[.agg #[.string v.f0, .string v.f1, .string v.f2, .int .i64 v.f3, .int .i64 v.f4, .bool v.f5, .string v.f6]] rfl (by (try simp only [List.map_toArray, List.map_cons, List.map_nil]); first | done | rfl) ?_; (with_reducible refine (hv _).mono ?_); rintro e w2 ⟨rfl, hb2⟩; have HB2 := Aside0.mk (below_step HB1.out hb2); have BKv2 := Aside0.mk (blk_below BKv.out hb2); clear z0 z1 z2 z3 z4 z5 z6; clear hb2 HB1 BKv; have BKv := BKv2; clear BKv2; have z0 := (blk_cell BKv.out 0).trans rfl; have z1 := (blk_cell BKv.out 1).trans rfl; have z2 := (blk_cell BKv.out 2).trans rfl; have z3 := (blk_cell BKv.out 3).trans rfl; have z4 := (blk_cell BKv.out 4).trans rfl; have z5 := (blk_cell BKv.out 5).trans rfl; have z6 := (blk_cell BKv.out 6).trans rfl; have c0 := (HB2.out.cell (p := ⟨b, 0, none⟩) lb).trans C0.out; have c1 := (HB2.out.cell (p := ⟨b, 1, none⟩) lb).trans C1.out; have c2 := (HB2.out.cell (p := ⟨b, 2, none⟩) lb).trans C2.out; refine ⟨_, rfl, ?_⟩) | ((with_reducible refine gate_dst (N := 5) rfl ?_); refine box_event ?hg (N := 5) ?hd (cs := #[.string (⟨#[]⟩ : ByteArray), .string (⟨#[]⟩ : ByteArray)]) (t := 51) ?hr ?_; (case hd => rfl); (case hg => rfl); (case hr => first | (go_simp; done) | (go_simp; rfl)); intro ga hg w3 hbox hb; have HB3 := Aside0.mk (below_step HB2.out hb); have BKv3 := Aside0.mk (blk_below BKv.out hb); have NE := Aside0.mk ((by rw [hg]; exact Nat.ne_of_lt (blk_lt BKv.out)) : gb ≠ ga); have BKa := Aside0.mk hbox; have GA := Aside0.mk ((by rw [hg]; exact HB2.out.size) : w.heap.size ≤ ga); clear hg hb hbox BKv HB2 z0 z1 z2 z3 z4 z5 z6 c0 c1 c2; have HB2 := HB3; have BKv := BKv3; clear HB3 BKv3; have a0 := (blk_cell BKa.out 0).trans rfl; have a1 := (blk_cell BKa.out 1).trans rfl; have g0 := blk_frozen BKa.out 0; have g1 := blk_frozen BKa.out 1))
  refine wp_gen (fun V => V.heap[gb]? = some (.cells #[.string v.f0, .string v.f1, .string v.f2, .int .i64 v.f3, .int .i64 v.f4, .bool v.f5, .string v.f6] 32 (0, 0)) ∧ V.heap[ga]? = some (.cells #[.string v.f1, .string v.f2] 51 (0, 0)) ∧ Below w.heap.size w V) ?_ ?_
  · refine ⟨?_, ?_, ?_⟩
    · with_reducible repeat (first | exact BKv.out | refine blk_far ?_ NE.out _)
    · with_reducible repeat (first | exact BKa.out | refine blk_put (cs := #[.string v.f1, .string (⟨#[]⟩ : ByteArray)]) ?_ 1 _ rfl | refine blk_put (cs := #[.string (⟨#[]⟩ : ByteArray), .string (⟨#[]⟩ : ByteArray)]) ?_ 0 _ rfl)
    · repeat (first | exact HB2.out | refine below_set ?_ GA.out)
  clear HB2 BKv BKa a0 a1 g0 g1
  rintro V ⟨BKv, BKa, HV⟩
  replace BKv := Aside0.mk BKv
  replace BKa := Aside0.mk BKa
  replace HV := Aside0.mk HV
  have z0 := (blk_cell BKv.out 0).trans rfl
  have z1 := (blk_cell BKv.out 1).trans rfl
  have z2 := (blk_cell BKv.out 2).trans rfl
  have z3 := (blk_cell BKv.out 3).trans rfl
  have z4 := (blk_cell BKv.out 4).trans rfl
  have z5 := (blk_cell BKv.out 5).trans rfl
  have z6 := (blk_cell BKv.out 6).trans rfl
  have c0 := (HV.out.cell (p := ⟨b, 0, none⟩) lb).trans C0.out
  have c1 := (HV.out.cell (p := ⟨b, 1, none⟩) lb).trans C1.out
  have c2 := (HV.out.cell (p := ⟨b, 2, none⟩) lb).trans C2.out
  have a0 := (blk_cell BKa.out 0).trans rfl
  have a1 := (blk_cell BKa.out 1).trans rfl
  have e4 : ∀ k : Nat, (Instr.lookup 44 (.map (some bs)) (.agg #[.string v.f1, .string v.f2]) false).run Tryd.prog (V.drewN k) = .ok (.pointer po) (V.drewN k) := fun k => hL (V.drewN k) (HV.out.block bs ls)
  clear hL
  go_quiet (fail)
  clear e4
  go_wp2
  refine wp_gen (fun V => V.heap[gb]? = some (.cells #[.string v.f0, .string v.f1, .string v.f2, .int .i64 v.f3, .int .i64 v.f4, .bool v.f5, .string v.f6] 32 (0, 0)) ∧ V.heap[ga]? = some (.cells #[.string v.f1, .string v.f2] 51 (0, 0)) ∧ Below w.heap.size w V) ⟨BKv.out, BKa.out, pw_below_drewN HV.out _⟩ ?_
  clear z0 z1 z2 z3 z4 z5 z6 c0 c1 c2 a0 a1 HV BKv BKa
  rintro V ⟨BKv, BKa, HV⟩
  replace BKv := Aside0.mk BKv
  replace BKa := Aside0.mk BKa
  replace HV := Aside0.mk HV
  have z0 := (blk_cell BKv.out 0).trans rfl
  have z1 := (blk_cell BKv.out 1).trans rfl
  have z2 := (blk_cell BKv.out 2).trans rfl
  have z3 := (blk_cell BKv.out 3).trans rfl
  have z4 := (blk_cell BKv.out 4).trans rfl
  have z5 := (blk_cell BKv.out 5).trans rfl
  have z6 := (blk_cell BKv.out 6).trans rfl
  have c0 := (HV.out.cell (p := ⟨b, 0, none⟩) lb).trans C0.out
  have c1 := (HV.out.cell (p := ⟨b, 1, none⟩) lb).trans C1.out
  have c2 := (HV.out.cell (p := ⟨b, 2, none⟩) lb).trans C2.out
  have a0 := (blk_cell BKa.out 0).trans rfl
  have a1 := (blk_cell BKa.out 1).trans rfl
  have e5a : (Instr.lookup 43 (.map (some bi)) (.string v.f0) true).run Tryd.prog V.drew = .ok (.tuple #[.agg #[.string q1, .string q2], .bool tw]) V.drew := hI V.drew (HV.out.block bi li)
  have e5b : ∀ o, (Instr.lookup 43 (.map (some bi)) (.string v.f0) true).run Tryd.prog (V.alloc o).drew = .ok (.tuple #[.agg #[.string q1, .string q2], .bool tw]) (V.alloc o).drew := fun o => hI (V.alloc o).drew ((below_alloc HV.out o).block bi li)
  have k1 : ∀ o, (V.alloc o).cell? ⟨b, 1, none⟩ = some (.map (some bi)) := fun o => ((below_alloc HV.out o).cell (p := ⟨b, 1, none⟩) lb).trans C1.out
  have k2 : ∀ o, (V.alloc o).cell? ⟨gb, 0, none⟩ = some (.string v.f0) := fun o => (blk_cell (blk_alloc BKv.out o) 0).trans rfl
  clear hI
  go_region
  clear e5a e5b k1 k2
  refine ex_gen (fun V => V.heap[gb]? = some (.cells #[.string v.f0, .string v.f1, .string v.f2, .int .i64 v.f3, .int .i64 v.f4, .bool v.f5, .string v.f6] 32 (0, 0)) ∧ V.heap[ga]? = some (.cells #[.string v.f1, .string v.f2] 51 (0, 0)) ∧ Below w.heap.size w V) ⟨blk_drew (blk_alloc BKv.out _), blk_drew (blk_alloc BKa.out _), below_drew (below_alloc HV.out _)⟩ ?_
  clear z0 z1 z2 z3 z4 z5 z6 c0 c1 c2 a0 a1 HV BKv BKa
  rintro V ⟨BKv, BKa, HV⟩
  replace BKv := Aside0.mk BKv
  replace BKa := Aside0.mk BKa
  replace HV := Aside0.mk HV
  have z0 := (blk_cell BKv.out 0).trans rfl
  have z1 := (blk_cell BKv.out 1).trans rfl
  have z2 := (blk_cell BKv.out 2).trans rfl
  have z3 := (blk_cell BKv.out 3).trans rfl
  have z4 := (blk_cell BKv.out 4).trans rfl
  have z5 := (blk_cell BKv.out 5).trans rfl
  have z6 := (blk_cell BKv.out 6).trans rfl
  have c0 := (HV.out.cell (p := ⟨b, 0, none⟩) lb).trans C0.out
  have c1 := (HV.out.cell (p := ⟨b, 1, none⟩) lb).trans C1.out
  have c2 := (HV.out.cell (p := ⟨b, 2, none⟩) lb).trans C2.out
  have a0 := (blk_cell BKa.out 0).trans rfl
  have a1 := (blk_cell BKa.out 1).trans rfl
  cases tw with
  | true =>
    go_wp2
    go_ret
    exact ⟨9, rfl, .twice rfl, fun _ => (by repeat (first | exact HV.out | apply below_drew1 | apply pw_below_drewN)), fun h => absurd h (by decide)⟩
  | false =>
    by_cases hn0 : n = 0
    · have hd : decide (0 < n) = false := decide_eq_false (by omega)
      have HN0 := Aside0.mk hn0
      clear hn0
      go_wp2
      go_quiet (fail)
      cases po with
      | none =>
        by_cases h6 : v.f6.toList = []
        · have e6 : (v.f6.toList == ([] : List UInt8)) = true := by rw [h6]; rfl
          go_wp2
          go_quiet (fail)
          go_wp2
          go_wp2
          refine wp_gen (fun V => V.heap[gb]? = some (.cells #[.string v.f0, .string v.f1, .string v.f2, .int .i64 v.f3, .int .i64 v.f4, .bool v.f5, .string v.f6] 32 (0, 0)) ∧ V.heap[ga]? = some (.cells #[.string v.f1, .string v.f2] 51 (0, 0)) ∧ Below w.heap.size w V) ⟨BKv.out, BKa.out, (by repeat (first | exact HV.out | apply below_drew1 | apply pw_below_drewN))⟩ ?_
          clear z0 z1 z2 z3 z4 z5 z6 c0 c1 c2 a0 a1 HV BKv BKa
          rintro V ⟨BKv, BKa, HV⟩
          replace BKv := Aside0.mk BKv
          replace BKa := Aside0.mk BKa
          replace HV := Aside0.mk HV
          have z0 := (blk_cell BKv.out 0).trans rfl
          have z1 := (blk_cell BKv.out 1).trans rfl
          have z2 := (blk_cell BKv.out 2).trans rfl
          have z3 := (blk_cell BKv.out 3).trans rfl
          have z4 := (blk_cell BKv.out 4).trans rfl
          have z5 := (blk_cell BKv.out 5).trans rfl
          have z6 := (blk_cell BKv.out 6).trans rfl
          have c0 := (HV.out.cell (p := ⟨b, 0, none⟩) lb).trans C0.out
          have c1 := (HV.out.cell (p := ⟨b, 1, none⟩) lb).trans C1.out
          have c2 := (HV.out.cell (p := ⟨b, 2, none⟩) lb).trans C2.out
          have a0 := (blk_cell BKa.out 0).trans rfl
          have a1 := (blk_cell BKa.out 1).trans rfl
          have HOV := Aside0.mk (own_move HO.out (fun k hk => HV.out.block k (HG.out k hk).2.2.2))
          have kb : ∀ o, (V.alloc o).cell? ⟨b, 0, none⟩ = some (.slice A n c) := fun o => ((below_alloc HV.out o).cell (p := ⟨b, 0, none⟩) lb).trans C0.out
          have NB := Aside0.mk (fun (e : some b = (Value.slice A n c).ownBlock) => (HG.out b e.symm).1 rfl)
          go_region_law (refine step_append_cells (W := V.drew) (w0 := V) 0 rfl (.tmp 95) (.tmp 97) 22 32 _ 7 88 rfl Tryd.underlying22 info32 rfl (by decide) (by decide) (.slice A n c) n xs [.string v.f0, .string v.f1, .string v.f2, .int .i64 v.f3, .int .i64 v.f4, .bool v.f5, .string v.f6] rfl rfl rfl (by intro u hu; simp only [List.mem_cons, List.not_mem_nil, or_false] at hu; rcases hu with rfl | rfl | rfl | rfl | rfl | rfl | rfl <;> rfl) HOV.out (Below.refl 0 V).drew (Nat.zero_le _) (by have := HN.out; omega) ?_; intro v1 wa ho hb0 hg hat; obtain ⟨A1, cc1, rfl⟩ := own_slice ho; have WO := Aside0.mk ho; have WB := Aside0.mk hb0; have WG := Aside0.mk hg; have WA := Aside0.mk hat; have d0 := (World.cell?_of_block (a := ⟨b, 0, none⟩) (hg.block b (Nat.lt_of_lt_of_le lb HV.out.size) NB.out)).trans c0; have d1 := (World.frozen?_of_block (a := ⟨b, 0, none⟩) ((hg.block b (Nat.lt_of_lt_of_le lb HV.out.size) NB.out).trans (HV.out.block b lb))).trans F0.out; clear ho hb0 hg hat)
          clear kb
          all_goals
            refine ex_gen (S17 w b bi bs (Value.slice A n c).ownBlock gb ga v _ (n + 1) (xs ++ (vcells v).toList)) (st17 HV.out BKv.out BKa.out GV.out GA.out lb li ls HBB.out HG.out C1.out C2.out d0 d1 WO.out WB.out WG.out WA.out) ?_
            clear z0 z1 z2 z3 z4 z5 z6 c0 c1 c2 a0 a1 d0 d1 WO WB WG WA HOV HV BKv BKa
            rintro V h17
            have H17 := Aside0.mk h17
            obtain ⟨BKv, BKa, c0, c1, c2, h6, h7, h8, h9, h10, h11⟩ := h17
            replace BKv := Aside0.mk (show V.heap[gb]? = some (.cells #[.string v.f0, .string v.f1, .string v.f2, .int .i64 v.f3, .int .i64 v.f4, .bool v.f5, .string v.f6] 32 (0, 0)) from BKv)
            replace BKa := Aside0.mk BKa
            replace h8 := Aside0.mk h8
            replace h9 := Aside0.mk h9
            clear h6 h7 h10 h11
            have z0 := (blk_cell BKv.out 0).trans rfl
            have z1 := (blk_cell BKv.out 1).trans rfl
            have z2 := (blk_cell BKv.out 2).trans rfl
            have z3 := (blk_cell BKv.out 3).trans rfl
            have z4 := (blk_cell BKv.out 4).trans rfl
            have z5 := (blk_cell BKv.out 5).trans rfl
            have z6 := (blk_cell BKv.out 6).trans rfl
            have a0 := (blk_cell BKa.out 0).trans rfl
            have a1 := (blk_cell BKa.out 1).trans rfl
            go_wp2
            obtain ⟨W8, e8, hm8, hg8⟩ := (ownsMap_at HMI.out h8.out).drew.update (Maps.string_keyed Tryd.underlying9) Tryd.underlying43 HN1.out (key := .string v.f0) (val := .agg #[.string v.f1, .string v.f2]) (WideMaps.keyOf_string_mk Tryd.underlying9 HS0.out) rfl
            replace hm8 := Aside0.mk hm8
            replace hg8 := Aside0.mk hg8
            go_region
            refine ex_gen (S18 w b bi bs (Value.slice A n c).ownBlock gb ga v _ (n + 1) (xs ++ (vcells v).toList) (n1 + 1) _) (st18 H17.out hm8.out hg8.out GV.out GA.out lb li ls HBB.out HG.out) ?_
            clear z0 z1 z2 z3 z4 z5 z6 c0 c1 c2 a0 a1 e8 hm8 hg8 H17 h8 h9 BKv BKa
            rintro V h17
            have H17 := Aside0.mk h17
            obtain ⟨BKv, BKa, c0, c1, c2, h6, h7, h8, h9, h10, h11⟩ := h17
            replace BKv := Aside0.mk (show V.heap[gb]? = some (.cells #[.string v.f0, .string v.f1, .string v.f2, .int .i64 v.f3, .int .i64 v.f4, .bool v.f5, .string v.f6] 32 (0, 0)) from BKv)
            replace BKa := Aside0.mk BKa
            replace h8 := Aside0.mk h8
            replace h9 := Aside0.mk h9
            clear h6 h7 h10 h11
            have z0 := (blk_cell BKv.out 0).trans rfl
            have z1 := (blk_cell BKv.out 1).trans rfl
            have z2 := (blk_cell BKv.out 2).trans rfl
            have z3 := (blk_cell BKv.out 3).trans rfl
            have z4 := (blk_cell BKv.out 4).trans rfl
            have z5 := (blk_cell BKv.out 5).trans rfl
            have z6 := (blk_cell BKv.out 6).trans rfl
            have a0 := (blk_cell BKa.out 0).trans rfl
            have a1 := (blk_cell BKa.out 1).trans rfl
            go_wp2
            obtain ⟨W9, e9, hm9, hg9⟩ := (ownsMap_at HMS.out h9.out).drew.update HK51.out Tryd.underlying44 HN2.out (key := .agg #[.string v.f1, .string v.f2]) (val := .pointer (some ⟨gb, 0, none⟩)) HK.out rfl
            replace hm9 := Aside0.mk hm9
            replace hg9 := Aside0.mk hg9
            go_region
            clear e9
            go_wp2
            go_ret
            exact ⟨0, rfl, .ok1 rfl (fun h => absurd h.1 (by have := HN0.out; omega)) rfl h6, fun h => absurd rfl h, fun _ => st19 H17.out hm9.out hg9.out GV.out lb li ls HBB.out HG.out⟩
        · have e6 : (v.f6.toList == ([] : List UInt8)) = false := beq_eq_false_iff_ne.2 h6
          go_wp2
          go_ret
          exact ⟨11, rfl, .none rfl (fun h => absurd h.1 (by have := HN0.out; omega)) rfl h6, fun _ => (by repeat (first | exact HV.out | apply below_drew1 | apply pw_below_drewN)), fun h => absurd h (by decide)⟩
      | some p =>
        obtain ⟨g, rfl, hgl, y0, y5⟩ := HP.out p rfl
        replace y0 := (HV.out.cell (p := ⟨g, 0, none⟩) hgl).trans y0
        replace y5 := (HV.out.cell (p := ⟨g, 5, none⟩) hgl).trans y5
        clear hgl
        by_cases h6 : oid.toList = v.f6.toList
        · have e6 : (oid.toList == v.f6.toList) = true := beq_iff_eq.2 h6
          have H6 := Aside0.mk h6
          clear h6
          go_wp2
          go_quiet (fail)
          cases fin with
          | true =>
            go_wp2
            go_ret
            exact ⟨22, rfl, .final rfl (fun h => absurd h.1 (by have := HN0.out; omega)) (by simp) H6.out rfl, fun _ => (by repeat (first | exact HV.out | apply below_drew1 | apply pw_below_drewN)), fun h => absurd h (by decide)⟩
          | false =>
            go_wp2
            refine wp_gen (fun V => V.heap[gb]? = some (.cells #[.string v.f0, .string v.f1, .string v.f2, .int .i64 v.f3, .int .i64 v.f4, .bool v.f5, .string v.f6] 32 (0, 0)) ∧ V.heap[ga]? = some (.cells #[.string v.f1, .string v.f2] 51 (0, 0)) ∧ Below w.heap.size w V) ⟨BKv.out, BKa.out, (by repeat (first | exact HV.out | apply below_drew1 | apply pw_below_drewN))⟩ ?_
            clear z0 z1 z2 z3 z4 z5 z6 c0 c1 c2 a0 a1 HV BKv BKa
            rintro V ⟨BKv, BKa, HV⟩
            replace BKv := Aside0.mk BKv
            replace BKa := Aside0.mk BKa
            replace HV := Aside0.mk HV
            have z0 := (blk_cell BKv.out 0).trans rfl
            have z1 := (blk_cell BKv.out 1).trans rfl
            have z2 := (blk_cell BKv.out 2).trans rfl
            have z3 := (blk_cell BKv.out 3).trans rfl
            have z4 := (blk_cell BKv.out 4).trans rfl
            have z5 := (blk_cell BKv.out 5).trans rfl
            have z6 := (blk_cell BKv.out 6).trans rfl
            have c0 := (HV.out.cell (p := ⟨b, 0, none⟩) lb).trans C0.out
            have c1 := (HV.out.cell (p := ⟨b, 1, none⟩) lb).trans C1.out
            have c2 := (HV.out.cell (p := ⟨b, 2, none⟩) lb).trans C2.out
            have a0 := (blk_cell BKa.out 0).trans rfl
            have a1 := (blk_cell BKa.out 1).trans rfl
            have HOV := Aside0.mk (own_move HO.out (fun k hk => HV.out.block k (HG.out k hk).2.2.2))
            have kb : ∀ o, (V.alloc o).cell? ⟨b, 0, none⟩ = some (.slice A n c) := fun o => ((below_alloc HV.out o).cell (p := ⟨b, 0, none⟩) lb).trans C0.out
            have NB := Aside0.mk (fun (e : some b = (Value.slice A n c).ownBlock) => (HG.out b e.symm).1 rfl)
            go_region_law (refine step_append_cells (W := V.drew) (w0 := V) 0 rfl (.tmp 95) (.tmp 97) 22 32 _ 7 88 rfl Tryd.underlying22 info32 rfl (by decide) (by decide) (.slice A n c) n xs [.string v.f0, .string v.f1, .string v.f2, .int .i64 v.f3, .int .i64 v.f4, .bool v.f5, .string v.f6] rfl rfl rfl (by intro u hu; simp only [List.mem_cons, List.not_mem_nil, or_false] at hu; rcases hu with rfl | rfl | rfl | rfl | rfl | rfl | rfl <;> rfl) HOV.out (Below.refl 0 V).drew (Nat.zero_le _) (by have := HN.out; omega) ?_; intro v1 wa ho hb0 hg hat; obtain ⟨A1, cc1, rfl⟩ := own_slice ho; have WO := Aside0.mk ho; have WB := Aside0.mk hb0; have WG := Aside0.mk hg; have WA := Aside0.mk hat; have d0 := (World.cell?_of_block (a := ⟨b, 0, none⟩) (hg.block b (Nat.lt_of_lt_of_le lb HV.out.size) NB.out)).trans c0; have d1 := (World.frozen?_of_block (a := ⟨b, 0, none⟩) ((hg.block b (Nat.lt_of_lt_of_le lb HV.out.size) NB.out).trans (HV.out.block b lb))).trans F0.out; clear ho hb0 hg hat)
            clear kb
            all_goals
              refine ex_gen (S17 w b bi bs (Value.slice A n c).ownBlock gb ga v _ (n + 1) (xs ++ (vcells v).toList)) (st17 HV.out BKv.out BKa.out GV.out GA.out lb li ls HBB.out HG.out C1.out C2.out d0 d1 WO.out WB.out WG.out WA.out) ?_
              clear z0 z1 z2 z3 z4 z5 z6 c0 c1 c2 a0 a1 d0 d1 WO WB WG WA HOV HV BKv BKa
              rintro V h17
              have H17 := Aside0.mk h17
              obtain ⟨BKv, BKa, c0, c1, c2, h6, h7, h8, h9, h10, h11⟩ := h17
              replace BKv := Aside0.mk (show V.heap[gb]? = some (.cells #[.string v.f0, .string v.f1, .string v.f2, .int .i64 v.f3, .int .i64 v.f4, .bool v.f5, .string v.f6] 32 (0, 0)) from BKv)
              replace BKa := Aside0.mk BKa
              replace h8 := Aside0.mk h8
              replace h9 := Aside0.mk h9
              clear h6 h7 h10 h11
              have z0 := (blk_cell BKv.out 0).trans rfl
              have z1 := (blk_cell BKv.out 1).trans rfl
              have z2 := (blk_cell BKv.out 2).trans rfl
              have z3 := (blk_cell BKv.out 3).trans rfl
              have z4 := (blk_cell BKv.out 4).trans rfl
              have z5 := (blk_cell BKv.out 5).trans rfl
              have z6 := (blk_cell BKv.out 6).trans rfl
              have a0 := (blk_cell BKa.out 0).trans rfl
              have a1 := (blk_cell BKa.out 1).trans rfl
              go_wp2
              obtain ⟨W8, e8, hm8, hg8⟩ := (ownsMap_at HMI.out h8.out).drew.update (Maps.string_keyed Tryd.underlying9) Tryd.underlying43 HN1.out (key := .string v.f0) (val := .agg #[.string v.f1, .string v.f2]) (WideMaps.keyOf_string_mk Tryd.underlying9 HS0.out) rfl
              replace hm8 := Aside0.mk hm8
              replace hg8 := Aside0.mk hg8
              go_region
              refine ex_gen (S18 w b bi bs (Value.slice A n c).ownBlock gb ga v _ (n + 1) (xs ++ (vcells v).toList) (n1 + 1) _) (st18 H17.out hm8.out hg8.out GV.out GA.out lb li ls HBB.out HG.out) ?_
              clear z0 z1 z2 z3 z4 z5 z6 c0 c1 c2 a0 a1 e8 hm8 hg8 H17 h8 h9 BKv BKa
              rintro V h17
              have H17 := Aside0.mk h17
              obtain ⟨BKv, BKa, c0, c1, c2, h6, h7, h8, h9, h10, h11⟩ := h17
              replace BKv := Aside0.mk (show V.heap[gb]? = some (.cells #[.string v.f0, .string v.f1, .string v.f2, .int .i64 v.f3, .int .i64 v.f4, .bool v.f5, .string v.f6] 32 (0, 0)) from BKv)
              replace BKa := Aside0.mk BKa
              replace h8 := Aside0.mk h8
              replace h9 := Aside0.mk h9
              clear h6 h7 h10 h11
              have z0 := (blk_cell BKv.out 0).trans rfl
              have z1 := (blk_cell BKv.out 1).trans rfl
              have z2 := (blk_cell BKv.out 2).trans rfl
              have z3 := (blk_cell BKv.out 3).trans rfl
              have z4 := (blk_cell BKv.out 4).trans rfl
              have z5 := (blk_cell BKv.out 5).trans rfl
              have z6 := (blk_cell BKv.out 6).trans rfl
              have a0 := (blk_cell BKa.out 0).trans rfl
              have a1 := (blk_cell BKa.out 1).trans rfl
              go_wp2
              obtain ⟨W9, e9, hm9, hg9⟩ := (ownsMap_at HMS.out h9.out).drew.update HK51.out Tryd.underlying44 HN2.out (key := .agg #[.string v.f1, .string v.f2]) (val := .pointer (some ⟨gb, 0, none⟩)) HK.out rfl
              replace hm9 := Aside0.mk hm9
              replace hg9 := Aside0.mk hg9
              go_region
              clear e9
              go_wp2
              go_ret
              exact ⟨0, rfl, .ok2 rfl (fun h => absurd h.1 (by have := HN0.out; omega)) (by simp) H6.out rfl, fun h => absurd rfl h, fun _ => st19 H17.out hm9.out hg9.out GV.out lb li ls HBB.out HG.out⟩
        · have e6 : (oid.toList == v.f6.toList) = false := beq_eq_false_iff_ne.2 h6
          go_wp2
          go_quiet (fail)
          go_wp2
          go_ret
          exact ⟨12, rfl, .state rfl (fun h => absurd h.1 (by have := HN0.out; omega)) (by simp) h6, fun _ => (by repeat (first | exact HV.out | apply below_drew1 | apply pw_below_drewN)), fun h => absurd h (by decide)⟩
    · obtain ⟨m, hm⟩ : ∃ m, n = m + 1 := ⟨n - 1, by omega⟩
      obtain ⟨ad, rfl, hab, hx⟩ := HL.out m hm
      have hd : decide (0 < n) = true := decide_eq_true (by omega)
      have x4 := (HV.out.cell (by rw [show (⟨(ad.add (m * 7)).block, (ad.add (m * 7)).off + 4, none⟩ : Addr).block = ad.block by unfold Addr.add; split <;> rfl]; exact hab)).trans hx
      have hw1 : wrap64 ((n : Int) - 1) = (m : Int) := by unfold wrap64; have := HN.out; omega
      have p0 : (0 ≤ (m : Int)) = True := eq_true (by omega)
      have p2 : ((m : Int) < (n : Int)) = True := eq_true (by omega)
      have p3 : (m < n) = True := eq_true (by omega)
      have HM := Aside0.mk hm
      clear hm hn0
      by_cases hday : v.f4 < day
      · have hd2 : decide (v.f4 < day) = true := decide_eq_true hday
        go_wp2
        go_quiet (fail)
        go_wp2
        go_ret
        exact ⟨24, rfl, .order rfl (by have := HM.out; omega) hday, fun _ => (by repeat (first | exact HV.out | apply below_drew1 | apply pw_below_drewN)), fun h => absurd h (by decide)⟩
      · have hd2 : decide (v.f4 < day) = false := decide_eq_false hday
        have HD := Aside0.mk hday
        clear hday
        go_wp2
        go_quiet (fail)
        cases po with
        | none =>
          by_cases h6 : v.f6.toList = []
          · have e6 : (v.f6.toList == ([] : List UInt8)) = true := by rw [h6]; rfl
            go_wp2
            go_quiet (fail)
            go_wp2
            go_wp2
            refine wp_gen (fun V => V.heap[gb]? = some (.cells #[.string v.f0, .string v.f1, .string v.f2, .int .i64 v.f3, .int .i64 v.f4, .bool v.f5, .string v.f6] 32 (0, 0)) ∧ V.heap[ga]? = some (.cells #[.string v.f1, .string v.f2] 51 (0, 0)) ∧ Below w.heap.size w V) ⟨BKv.out, BKa.out, (by repeat (first | exact HV.out | apply below_drew1 | apply pw_below_drewN))⟩ ?_
            clear z0 z1 z2 z3 z4 z5 z6 c0 c1 c2 a0 a1 HV BKv BKa
            rintro V ⟨BKv, BKa, HV⟩
            replace BKv := Aside0.mk BKv
            replace BKa := Aside0.mk BKa
            replace HV := Aside0.mk HV
            have z0 := (blk_cell BKv.out 0).trans rfl
            have z1 := (blk_cell BKv.out 1).trans rfl
            have z2 := (blk_cell BKv.out 2).trans rfl
            have z3 := (blk_cell BKv.out 3).trans rfl
            have z4 := (blk_cell BKv.out 4).trans rfl
            have z5 := (blk_cell BKv.out 5).trans rfl
            have z6 := (blk_cell BKv.out 6).trans rfl
            have c0 := (HV.out.cell (p := ⟨b, 0, none⟩) lb).trans C0.out
            have c1 := (HV.out.cell (p := ⟨b, 1, none⟩) lb).trans C1.out
            have c2 := (HV.out.cell (p := ⟨b, 2, none⟩) lb).trans C2.out
            have a0 := (blk_cell BKa.out 0).trans rfl
            have a1 := (blk_cell BKa.out 1).trans rfl
            have HOV := Aside0.mk (own_move HO.out (fun k hk => HV.out.block k (HG.out k hk).2.2.2))
            have kb : ∀ o, (V.alloc o).cell? ⟨b, 0, none⟩ = some (.slice (some ad) n c) := fun o => ((below_alloc HV.out o).cell (p := ⟨b, 0, none⟩) lb).trans C0.out
            have NB := Aside0.mk (fun (e : some b = (Value.slice (some ad) n c).ownBlock) => (HG.out b e.symm).1 rfl)
            go_region_law (refine step_append_cells (W := V.drew) (w0 := V) 0 rfl (.tmp 95) (.tmp 97) 22 32 _ 7 88 rfl Tryd.underlying22 info32 rfl (by decide) (by decide) (.slice (some ad) n c) n xs [.string v.f0, .string v.f1, .string v.f2, .int .i64 v.f3, .int .i64 v.f4, .bool v.f5, .string v.f6] rfl rfl rfl (by intro u hu; simp only [List.mem_cons, List.not_mem_nil, or_false] at hu; rcases hu with rfl | rfl | rfl | rfl | rfl | rfl | rfl <;> rfl) HOV.out (Below.refl 0 V).drew (Nat.zero_le _) (by have := HN.out; omega) ?_; intro v1 wa ho hb0 hg hat; obtain ⟨A1, cc1, rfl⟩ := own_slice ho; have WO := Aside0.mk ho; have WB := Aside0.mk hb0; have WG := Aside0.mk hg; have WA := Aside0.mk hat; have d0 := (World.cell?_of_block (a := ⟨b, 0, none⟩) (hg.block b (Nat.lt_of_lt_of_le lb HV.out.size) NB.out)).trans c0; have d1 := (World.frozen?_of_block (a := ⟨b, 0, none⟩) ((hg.block b (Nat.lt_of_lt_of_le lb HV.out.size) NB.out).trans (HV.out.block b lb))).trans F0.out; clear ho hb0 hg hat)
            clear kb
            all_goals
              refine ex_gen (S17 w b bi bs (Value.slice (some ad) n c).ownBlock gb ga v _ (n + 1) (xs ++ (vcells v).toList)) (st17 HV.out BKv.out BKa.out GV.out GA.out lb li ls HBB.out HG.out C1.out C2.out d0 d1 WO.out WB.out WG.out WA.out) ?_
              clear z0 z1 z2 z3 z4 z5 z6 c0 c1 c2 a0 a1 d0 d1 WO WB WG WA HOV HV BKv BKa
              rintro V h17
              have H17 := Aside0.mk h17
              obtain ⟨BKv, BKa, c0, c1, c2, h6, h7, h8, h9, h10, h11⟩ := h17
              replace BKv := Aside0.mk (show V.heap[gb]? = some (.cells #[.string v.f0, .string v.f1, .string v.f2, .int .i64 v.f3, .int .i64 v.f4, .bool v.f5, .string v.f6] 32 (0, 0)) from BKv)
              replace BKa := Aside0.mk BKa
              replace h8 := Aside0.mk h8
              replace h9 := Aside0.mk h9
              clear h6 h7 h10 h11
              have z0 := (blk_cell BKv.out 0).trans rfl
              have z1 := (blk_cell BKv.out 1).trans rfl
              have z2 := (blk_cell BKv.out 2).trans rfl
              have z3 := (blk_cell BKv.out 3).trans rfl
              have z4 := (blk_cell BKv.out 4).trans rfl
              have z5 := (blk_cell BKv.out 5).trans rfl
              have z6 := (blk_cell BKv.out 6).trans rfl
              have a0 := (blk_cell BKa.out 0).trans rfl
              have a1 := (blk_cell BKa.out 1).trans rfl
              go_wp2
              obtain ⟨W8, e8, hm8, hg8⟩ := (ownsMap_at HMI.out h8.out).drew.update (Maps.string_keyed Tryd.underlying9) Tryd.underlying43 HN1.out (key := .string v.f0) (val := .agg #[.string v.f1, .string v.f2]) (WideMaps.keyOf_string_mk Tryd.underlying9 HS0.out) rfl
              replace hm8 := Aside0.mk hm8
              replace hg8 := Aside0.mk hg8
              go_region
              refine ex_gen (S18 w b bi bs (Value.slice (some ad) n c).ownBlock gb ga v _ (n + 1) (xs ++ (vcells v).toList) (n1 + 1) _) (st18 H17.out hm8.out hg8.out GV.out GA.out lb li ls HBB.out HG.out) ?_
              clear z0 z1 z2 z3 z4 z5 z6 c0 c1 c2 a0 a1 e8 hm8 hg8 H17 h8 h9 BKv BKa
              rintro V h17
              have H17 := Aside0.mk h17
              obtain ⟨BKv, BKa, c0, c1, c2, h6, h7, h8, h9, h10, h11⟩ := h17
              replace BKv := Aside0.mk (show V.heap[gb]? = some (.cells #[.string v.f0, .string v.f1, .string v.f2, .int .i64 v.f3, .int .i64 v.f4, .bool v.f5, .string v.f6] 32 (0, 0)) from BKv)
              replace BKa := Aside0.mk BKa
              replace h8 := Aside0.mk h8
              replace h9 := Aside0.mk h9
              clear h6 h7 h10 h11
              have z0 := (blk_cell BKv.out 0).trans rfl
              have z1 := (blk_cell BKv.out 1).trans rfl
              have z2 := (blk_cell BKv.out 2).trans rfl
              have z3 := (blk_cell BKv.out 3).trans rfl
              have z4 := (blk_cell BKv.out 4).trans rfl
              have z5 := (blk_cell BKv.out 5).trans rfl
              have z6 := (blk_cell BKv.out 6).trans rfl
              have a0 := (blk_cell BKa.out 0).trans rfl
              have a1 := (blk_cell BKa.out 1).trans rfl
              go_wp2
              obtain ⟨W9, e9, hm9, hg9⟩ := (ownsMap_at HMS.out h9.out).drew.update HK51.out Tryd.underlying44 HN2.out (key := .agg #[.string v.f1, .string v.f2]) (val := .pointer (some ⟨gb, 0, none⟩)) HK.out rfl
              replace hm9 := Aside0.mk hm9
              replace hg9 := Aside0.mk hg9
              go_region
              clear e9
              go_wp2
              go_ret
              exact ⟨0, rfl, .ok1 rfl (fun h => by have := HD.out; omega) rfl h6, fun h => absurd rfl h, fun _ => st19 H17.out hm9.out hg9.out GV.out lb li ls HBB.out HG.out⟩
          · have e6 : (v.f6.toList == ([] : List UInt8)) = false := beq_eq_false_iff_ne.2 h6
            go_wp2
            go_ret
            exact ⟨11, rfl, .none rfl (fun h => by have := HD.out; omega) rfl h6, fun _ => (by repeat (first | exact HV.out | apply below_drew1 | apply pw_below_drewN)), fun h => absurd h (by decide)⟩
        | some p =>
          obtain ⟨g, rfl, hgl, y0, y5⟩ := HP.out p rfl
          replace y0 := (HV.out.cell (p := ⟨g, 0, none⟩) hgl).trans y0
          replace y5 := (HV.out.cell (p := ⟨g, 5, none⟩) hgl).trans y5
          clear hgl
          by_cases h6 : oid.toList = v.f6.toList
          · have e6 : (oid.toList == v.f6.toList) = true := beq_iff_eq.2 h6
            have H6 := Aside0.mk h6
            clear h6
            go_wp2
            go_quiet (fail)
            cases fin with
            | true =>
              go_wp2
              go_ret
              exact ⟨22, rfl, .final rfl (fun h => by have := HD.out; omega) (by simp) H6.out rfl, fun _ => (by repeat (first | exact HV.out | apply below_drew1 | apply pw_below_drewN)), fun h => absurd h (by decide)⟩
            | false =>
              go_wp2
              refine wp_gen (fun V => V.heap[gb]? = some (.cells #[.string v.f0, .string v.f1, .string v.f2, .int .i64 v.f3, .int .i64 v.f4, .bool v.f5, .string v.f6] 32 (0, 0)) ∧ V.heap[ga]? = some (.cells #[.string v.f1, .string v.f2] 51 (0, 0)) ∧ Below w.heap.size w V) ⟨BKv.out, BKa.out, (by repeat (first | exact HV.out | apply below_drew1 | apply pw_below_drewN))⟩ ?_
              clear z0 z1 z2 z3 z4 z5 z6 c0 c1 c2 a0 a1 HV BKv BKa
              rintro V ⟨BKv, BKa, HV⟩
              replace BKv := Aside0.mk BKv
              replace BKa := Aside0.mk BKa
              replace HV := Aside0.mk HV
              have z0 := (blk_cell BKv.out 0).trans rfl
              have z1 := (blk_cell BKv.out 1).trans rfl
              have z2 := (blk_cell BKv.out 2).trans rfl
              have z3 := (blk_cell BKv.out 3).trans rfl
              have z4 := (blk_cell BKv.out 4).trans rfl
              have z5 := (blk_cell BKv.out 5).trans rfl
              have z6 := (blk_cell BKv.out 6).trans rfl
              have c0 := (HV.out.cell (p := ⟨b, 0, none⟩) lb).trans C0.out
              have c1 := (HV.out.cell (p := ⟨b, 1, none⟩) lb).trans C1.out
              have c2 := (HV.out.cell (p := ⟨b, 2, none⟩) lb).trans C2.out
              have a0 := (blk_cell BKa.out 0).trans rfl
              have a1 := (blk_cell BKa.out 1).trans rfl
              have HOV := Aside0.mk (own_move HO.out (fun k hk => HV.out.block k (HG.out k hk).2.2.2))
              have kb : ∀ o, (V.alloc o).cell? ⟨b, 0, none⟩ = some (.slice (some ad) n c) := fun o => ((below_alloc HV.out o).cell (p := ⟨b, 0, none⟩) lb).trans C0.out
              have NB := Aside0.mk (fun (e : some b = (Value.slice (some ad) n c).ownBlock) => (HG.out b e.symm).1 rfl)
              go_region_law (refine step_append_cells (W := V.drew) (w0 := V) 0 rfl (.tmp 95) (.tmp 97) 22 32 _ 7 88 rfl Tryd.underlying22 info32 rfl (by decide) (by decide) (.slice (some ad) n c) n xs [.string v.f0, .string v.f1, .string v.f2, .int .i64 v.f3, .int .i64 v.f4, .bool v.f5, .string v.f6] rfl rfl rfl (by intro u hu; simp only [List.mem_cons, List.not_mem_nil, or_false] at hu; rcases hu with rfl | rfl | rfl | rfl | rfl | rfl | rfl <;> rfl) HOV.out (Below.refl 0 V).drew (Nat.zero_le _) (by have := HN.out; omega) ?_; intro v1 wa ho hb0 hg hat; obtain ⟨A1, cc1, rfl⟩ := own_slice ho; have WO := Aside0.mk ho; have WB := Aside0.mk hb0; have WG := Aside0.mk hg; have WA := Aside0.mk hat; have d0 := (World.cell?_of_block (a := ⟨b, 0, none⟩) (hg.block b (Nat.lt_of_lt_of_le lb HV.out.size) NB.out)).trans c0; have d1 := (World.frozen?_of_block (a := ⟨b, 0, none⟩) ((hg.block b (Nat.lt_of_lt_of_le lb HV.out.size) NB.out).trans (HV.out.block b lb))).trans F0.out; clear ho hb0 hg hat)
              clear kb
              all_goals
                refine ex_gen (S17 w b bi bs (Value.slice (some ad) n c).ownBlock gb ga v _ (n + 1) (xs ++ (vcells v).toList)) (st17 HV.out BKv.out BKa.out GV.out GA.out lb li ls HBB.out HG.out C1.out C2.out d0 d1 WO.out WB.out WG.out WA.out) ?_
                clear z0 z1 z2 z3 z4 z5 z6 c0 c1 c2 a0 a1 d0 d1 WO WB WG WA HOV HV BKv BKa
                rintro V h17
                have H17 := Aside0.mk h17
                obtain ⟨BKv, BKa, c0, c1, c2, h6, h7, h8, h9, h10, h11⟩ := h17
                replace BKv := Aside0.mk (show V.heap[gb]? = some (.cells #[.string v.f0, .string v.f1, .string v.f2, .int .i64 v.f3, .int .i64 v.f4, .bool v.f5, .string v.f6] 32 (0, 0)) from BKv)
                replace BKa := Aside0.mk BKa
                replace h8 := Aside0.mk h8
                replace h9 := Aside0.mk h9
                clear h6 h7 h10 h11
                have z0 := (blk_cell BKv.out 0).trans rfl
                have z1 := (blk_cell BKv.out 1).trans rfl
                have z2 := (blk_cell BKv.out 2).trans rfl
                have z3 := (blk_cell BKv.out 3).trans rfl
                have z4 := (blk_cell BKv.out 4).trans rfl
                have z5 := (blk_cell BKv.out 5).trans rfl
                have z6 := (blk_cell BKv.out 6).trans rfl
                have a0 := (blk_cell BKa.out 0).trans rfl
                have a1 := (blk_cell BKa.out 1).trans rfl
                go_wp2
                obtain ⟨W8, e8, hm8, hg8⟩ := (ownsMap_at HMI.out h8.out).drew.update (Maps.string_keyed Tryd.underlying9) Tryd.underlying43 HN1.out (key := .string v.f0) (val := .agg #[.string v.f1, .string v.f2]) (WideMaps.keyOf_string_mk Tryd.underlying9 HS0.out) rfl
                replace hm8 := Aside0.mk hm8
                replace hg8 := Aside0.mk hg8
                go_region
                refine ex_gen (S18 w b bi bs (Value.slice (some ad) n c).ownBlock gb ga v _ (n + 1) (xs ++ (vcells v).toList) (n1 + 1) _) (st18 H17.out hm8.out hg8.out GV.out GA.out lb li ls HBB.out HG.out) ?_
                clear z0 z1 z2 z3 z4 z5 z6 c0 c1 c2 a0 a1 e8 hm8 hg8 H17 h8 h9 BKv BKa
                rintro V h17
                have H17 := Aside0.mk h17
                obtain ⟨BKv, BKa, c0, c1, c2, h6, h7, h8, h9, h10, h11⟩ := h17
                replace BKv := Aside0.mk (show V.heap[gb]? = some (.cells #[.string v.f0, .string v.f1, .string v.f2, .int .i64 v.f3, .int .i64 v.f4, .bool v.f5, .string v.f6] 32 (0, 0)) from BKv)
                replace BKa := Aside0.mk BKa
                replace h8 := Aside0.mk h8
                replace h9 := Aside0.mk h9
                clear h6 h7 h10 h11
                have z0 := (blk_cell BKv.out 0).trans rfl
                have z1 := (blk_cell BKv.out 1).trans rfl
                have z2 := (blk_cell BKv.out 2).trans rfl
                have z3 := (blk_cell BKv.out 3).trans rfl
                have z4 := (blk_cell BKv.out 4).trans rfl
                have z5 := (blk_cell BKv.out 5).trans rfl
                have z6 := (blk_cell BKv.out 6).trans rfl
                have a0 := (blk_cell BKa.out 0).trans rfl
                have a1 := (blk_cell BKa.out 1).trans rfl
                go_wp2
                obtain ⟨W9, e9, hm9, hg9⟩ := (ownsMap_at HMS.out h9.out).drew.update HK51.out Tryd.underlying44 HN2.out (key := .agg #[.string v.f1, .string v.f2]) (val := .pointer (some ⟨gb, 0, none⟩)) HK.out rfl
                replace hm9 := Aside0.mk hm9
                replace hg9 := Aside0.mk hg9
                go_region
                clear e9
                go_wp2
                go_ret
                exact ⟨0, rfl, .ok2 rfl (fun h => by have := HD.out; omega) (by simp) H6.out rfl, fun h => absurd rfl h, fun _ => st19 H17.out hm9.out hg9.out GV.out lb li ls HBB.out HG.out⟩
          · have e6 : (oid.toList == v.f6.toList) = false := beq_eq_false_iff_ne.2 h6
            go_wp2
            go_quiet (fail)
            go_wp2
            go_ret
            exact ⟨12, rfl, .state rfl (fun h => by have := HD.out; omega) (by simp) h6, fun _ => (by repeat (first | exact HV.out | apply below_drew1 | apply pw_below_drewN)), fun h => absurd h (by decide)⟩
end Go.Proofs.YtbmmedoopjjbkaaDoor.Fin
