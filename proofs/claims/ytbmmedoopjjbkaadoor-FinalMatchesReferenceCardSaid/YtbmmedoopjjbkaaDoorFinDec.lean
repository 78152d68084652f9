/- The contracts of Decide, Value, Stands and List, over a plain list. -/
import Derived.Test.YtbmmedoopjjbkaaDoorFinCalls
namespace Go.Proofs.YtbmmedoopjjbkaaDoor.Fin
open Go.RowKit Go.Proofs.YtbmmedoopjjbkaaDoor.H Go.Proofs.YtbmmedoopjjbkaaDoorW.PrintWords Go.Proofs.YtbmmedoopjjbkaaDoorW.PrintLast Go.Proofs.YtbmmedoopjjbkaaDoorW.PrintMore
set_option linter.unusedVariables false
attribute [local go_sem] Oper.semAt_some

set_option maxRecDepth 100000 in
set_option maxHeartbeats 1000000 in
theorem decide_bad (w : World) (b : Nat) (v : S32) (hv : ∀ w, Calls Tryd.prog 24 #[.agg (vcells v)] w fun e w' => e = .returned (.bool false) ∧ Below w.heap.size w w') :
    Calls Tryd.prog 13 #[.pointer (some ⟨b, 0, none⟩), .agg (vcells v)] w fun e w' => e = .returned (.int .i64 1) ∧ Below w.heap.size w w' := by
  unfold vcells at hv ⊢
  have HB := Aside0.mk (Below.refl w.heap.size w)
  go_enter Tryd.func13, Tryd.ntmps13
  go_wp2_with (first | ((with_reducible refine gate_dst (N := 3) rfl ?_); refine box_event ?hg (N := 3) ?hd (cs := #[.string v.f0, .string v.f1, .string v.f2, .int .i64 v.f3, .int .i64 v.f4, .bool v.f5, .string v.f6]) (t := 32) ?hr ?_; (case hd => rfl); (case hg => rfl); (case hr => first | (go_simp; done) | (go_simp; rfl)); intro gb hg w1 hbox hb; have HB1 := Aside0.mk (below_step HB.out hb); have BKv := Aside0.mk hbox; have GV := Aside0.mk ((by rw [hg]; exact Nat.le_refl _) : w.heap.size ≤ gb); clear hbox hg hb; have z0 := (blk_cell BKv.out 0).trans rfl; have z1 := (blk_cell BKv.out 1).trans rfl; have z2 := (blk_cell BKv.out 2).trans rfl; have z3 := (blk_cell BKv.out 3).trans rfl; have z4 := (blk_cell BKv.out 4).trans rfl; have z5 := (blk_cell BKv.out 5).trans rfl; have z6 := (blk_cell BKv.out 6).trans rfl) | ((with_reducible refine gate_dst (N := 14) rfl ?_); (try (refine gate_guard (by rfl) ?_; dsimp only)); refine goesL_ (some 14) rfl rfl Tryd.func24 (by kernel_rfl) rfl #[.agg #[.string v.f0, .string v.f1, .string v.f2, .int .i64 v.f3, .int .i64 v.f4, .bool v.f5, .string v.f6]] rfl (by (try simp only [List.map_toArray, List.map_cons, List.map_nil]); first | done | rfl) ?_; (with_reducible refine (hv _).mono ?_); rintro e w2 ⟨rfl, hb2⟩; have HB2 := Aside0.mk (below_step HB1.out hb2); clear hb2; refine ⟨_, rfl, ?_⟩))
  go_ret
  exact ⟨rfl, by repeat (first | exact HB2.out | apply below_drew1 | apply pw_below_drewN)⟩
set_option maxRecDepth 100000 in
set_option maxHeartbeats 1000000 in
theorem decide_nil (w : World) (v : S32) : Calls Tryd.prog 13 #[.pointer none, .agg (vcells v)] w fun e w' => e = .returned (.int .i64 1) ∧ Below w.heap.size w w' := by
  unfold vcells
  have HB := Aside0.mk (Below.refl w.heap.size w)
  go_enter Tryd.func13, Tryd.ntmps13
  go_wp2_with (first | ((with_reducible refine gate_dst (N := 3) rfl ?_); refine box_event ?hg (N := 3) ?hd (cs := #[.string v.f0, .string v.f1, .string v.f2, .int .i64 v.f3, .int .i64 v.f4, .bool v.f5, .string v.f6]) (t := 32) ?hr ?_; (case hd => rfl); (case hg => rfl); (case hr => first | (go_simp; done) | (go_simp; rfl)); intro gb hg w1 hbox hb; have HB1 := Aside0.mk (below_step HB.out hb); have BKv := Aside0.mk hbox; have GV := Aside0.mk ((by rw [hg]; exact Nat.le_refl _) : w.heap.size ≤ gb); clear hbox hg hb; have z0 := (blk_cell BKv.out 0).trans rfl; have z1 := (blk_cell BKv.out 1).trans rfl; have z2 := (blk_cell BKv.out 2).trans rfl; have z3 := (blk_cell BKv.out 3).trans rfl; have z4 := (blk_cell BKv.out 4).trans rfl; have z5 := (blk_cell BKv.out 5).trans rfl; have z6 := (blk_cell BKv.out 6).trans rfl))
  go_ret
  exact ⟨rfl, by repeat (first | exact HB1.out | apply below_drew1 | apply pw_below_drewN)⟩

/-- What was walked is what the plain list says. -/
theorem dec_of {L : List S32} {v : S32} {day : Int} {tw fin : Bool} {po : Option Addr} {oid : ByteArray} {code : Int} (h : Dec L.length v day tw po oid fin code) (hv : vd v = true) (ht : hasId L v.f0 = tw)
    (hl : (0 < L.length ∧ v.f4 < day) ↔ late L v = true) (hp : (po = none ∧ cur L v.f1 v.f2 = none) ∨ ∃ o, po ≠ none ∧ cur L v.f1 v.f2 = some o ∧ oid = o.f0 ∧ fin = o.f5) : code = dec L v := by
  unfold dec
  rw [if_neg (by simp [hv]), ht]
  have lt : ∀ h1 : ¬ (0 < L.length ∧ v.f4 < day), ¬ late L v = true := fun h1 h2 => h1 (hl.2 h2)
  cases h with
  | twice h => rw [if_pos h]
  | order h h1 h2 => rw [if_neg (by simp [h]), if_pos (hl.1 ⟨h1, h2⟩)]
  | none h h1 h2 h3 =>
    rw [if_neg (by simp [h]), if_neg (lt h1)]
    rcases hp with ⟨_, hc⟩ | ⟨o, hn, _⟩
    · rw [hc]; simp [h3]
    · exact absurd h2 hn
  | state h h1 h2 h3 =>
    rw [if_neg (by simp [h]), if_neg (lt h1)]
    rcases hp with ⟨hn, hc⟩ | ⟨o, hn, hc, rfl, rfl⟩
    · exact absurd hn h2
    · rw [hc]; simp [h3]
  | final h h1 h2 h3 h4 =>
    rw [if_neg (by simp [h]), if_neg (lt h1)]
    rcases hp with ⟨hn, hc⟩ | ⟨o, hn, hc, rfl, rfl⟩
    · exact absurd hn h2
    · rw [hc]; simp [h3, h4]
  | ok1 h h1 h2 h3 =>
    rw [if_neg (by simp [h]), if_neg (lt h1)]
    rcases hp with ⟨_, hc⟩ | ⟨o, hn, _⟩
    · rw [hc]; simp [h3]
    · exact absurd h2 hn
  | ok2 h h1 h2 h3 h4 =>
    rw [if_neg (by simp [h]), if_neg (lt h1)]
    rcases hp with ⟨hn, hc⟩ | ⟨o, hn, hc, rfl, rfl⟩
    · exact absurd hn h2
    · rw [hc]; simp [h3, h4]
theorem dec_good {L : List S32} {v : S32} (h : Good L) (hd : dec L v = 0) : Good (L ++ [v]) ∧ hasId L v.f0 = false := by
  have hg := good_step h v
  unfold step at hg
  rw [if_pos hd] at hg
  refine ⟨hg, ?_⟩
  rcases hi : hasId L v.f0 with _ | _
  · rfl
  · unfold dec at hd
    rcases hv : vd v with _ | _
    · rw [if_pos hv] at hd; exact absurd hd (by decide)
    · rw [if_neg (by simp [hv]), if_pos hi] at hd; exact absurd hd (by decide)
/-- An element of the list, in memory. -/
theorem RegAt.elem {w : World} {F : Nat → Prop} {b : Nat} {L : List S32} {A : Option Addr} {c bi bs n1 n2 : Nat} {Di Ds : DataW Value} (h : RegAt w F b L A c bi bs n1 n2 Di Ds) {m : Nat} {v : S32} (hm : L[m]? = some v) :
    ∃ ad : Addr, A = some ad ∧ ad.block < w.heap.size ∧ ∀ j u, j < 7 → (vcells v).toList[j]? = some u → w.cell? ⟨(ad.add (m * 7)).block, (ad.add (m * 7)).off + j, none⟩ = some u := by
  have hlt : m < L.length := (List.getElem?_eq_some_iff.1 hm).1
  have hw := h.own
  obtain ⟨hl, ⟨hn, h0⟩ | ⟨g, cap, cur, he, hg, hh, r⟩⟩ := hw
  · omega
  · injection he with e1 e2 e3
    subst e1
    subst e3
    refine ⟨_, rfl, blk_lt hh, fun j u hj hu => ?_⟩
    have e : (⟨g, 0, none⟩ : Addr).add (m * 7) = ⟨g, m * 7, none⟩ := by unfold Addr.add; split <;> simp_all
    rw [e]
    show w.cell? ⟨g, m * 7 + j, none⟩ = some u
    rw [h.own.cellAt (m * 7 + j) (by omega), cellsL_get L m j v hm hj]
    exact hu

theorem decide_calls (w : World) (F : Nat → Prop) (b : Nat) (L : List S32) (v : S32) (h : RegF w F b L) (hn : L.length ≤ 1000000) :
    Calls Tryd.prog 13 #[.pointer (some ⟨b, 0, none⟩), .agg (vcells v)] w fun e w' => e = .returned (.int .i64 (dec L v)) ∧ RegF w' (ext F w w') b (step L v) ∧ KeepF F w w' := by
  rcases hv : vd v with _ | _
  · refine (decide_bad w b v (fun w => by have := valid_calls v w; rwa [hv] at this)).mono ?_
    rintro e w' ⟨rfl, hb⟩
    have hd : dec L v = 1 := by unfold dec; rw [if_pos hv]
    refine ⟨by rw [hd], ?_, KeepF.of_below hb⟩
    unfold step
    rw [hd, if_neg (by decide)]
    exact h.ext hb
  · obtain ⟨A, c, bi, bs, n1, n2, Di, Ds, h⟩ := h
    obtain ⟨t0, t1, t2⟩ := vd_parts hv
    have s0 := small_max (tok_size t0)
    obtain ⟨kl, hk⟩ := key51 v.f1 v.f2 (small_max (tok_size t1)) (small_max (tok_size t2))
    have hs := h.sat _ _ kl hk
    have main : ∀ (po : Option Addr) (oid : ByteArray) (fin : Bool), (∀ w' : World, w'.heap[bs]? = w.heap[bs]? → (Instr.lookup 44 (.map (some bs)) (.agg #[.string v.f1, .string v.f2]) false).run Tryd.prog w' = .ok (.pointer po) w') →
        (∀ p, po = some p → ∃ g, p = ⟨g, 0, none⟩ ∧ g < w.heap.size ∧ w.cell? ⟨g, 0, none⟩ = some (.string oid) ∧ w.cell? ⟨g, 5, none⟩ = some (.bool fin)) →
        ((po = none ∧ cur L v.f1 v.f2 = none) ∨ ∃ o, po ≠ none ∧ cur L v.f1 v.f2 = some o ∧ oid = o.f0 ∧ fin = o.f5) →
        Calls Tryd.prog 13 #[.pointer (some ⟨b, 0, none⟩), .agg (vcells v)] w fun e w' => e = .returned (.int .i64 (dec L v)) ∧ RegF w' (ext F w w') b (step L v) ∧ KeepF F w w' := by
      intro po oid fin hL hpo hcur
      have hI : ∃ q1 q2 : ByteArray, ∀ w' : World, w'.heap[bi]? = w.heap[bi]? → (Instr.lookup 43 (.map (some bi)) (.string v.f0) true).run Tryd.prog w' = .ok (.tuple #[.agg #[.string q1, .string q2], .bool (hasId L v.f0)]) w' := by
        rw [← h.ihas v.f0 s0]
        rcases hi : hasId L v.f0 with _ | _
        · exact ⟨⟨#[]⟩, ⟨#[]⟩, fun w' e => look43 h.mi s0 (atKey_of_not_has (by rw [h.ihas _ s0]; exact hi) _) w' e⟩
        · obtain ⟨x, hx, hxe⟩ := List.any_eq_true.1 hi
          have hxe := of_decide_eq_true hxe
          exact ⟨x.f1, x.f2, fun w' e => look43 h.mi s0 (by rw [← hxe]; exact h.iat x hx _) w' e⟩
      obtain ⟨q1, q2, hI⟩ := hI
      obtain ⟨day, hday, hlast⟩ : ∃ day : Int, ((0 < L.length ∧ v.f4 < day) ↔ late L v = true) ∧ ∀ m, L.length = m + 1 → ∃ ad : Addr, A = some ad ∧ ad.block < w.heap.size ∧ w.cell? ⟨(ad.add (m * 7)).block, (ad.add (m * 7)).off + 4, none⟩ = some (.int .i64 day) := by
        rcases hgl : L.getLast? with _ | o
        · have : L = [] := List.getLast?_eq_none_iff.1 hgl
          subst this
          exact ⟨0, by simp [late], fun m hm => by simp at hm⟩
        · refine ⟨o.f4, ?_, fun m hm => ?_⟩
          · unfold late
            rw [hgl]
            have hne : L ≠ [] := by rintro rfl; simp at hgl
            have := List.length_pos_iff.2 hne
            simp [this]
          · rw [List.getLast?_eq_getElem?, hm, Nat.add_sub_cancel] at hgl
            obtain ⟨ad, e1, e2, e3⟩ := h.elem hgl
            exact ⟨ad, e1, e2, e3 4 _ (by decide) rfl⟩
      have hv' : ∀ w, Calls Tryd.prog 24 #[.agg (vcells v)] w fun e w' => e = .returned (.bool true) ∧ Below w.heap.size w w' := fun w => by have := valid_calls v w; rwa [hv] at this
      refine (decide_raw w b bi bs A L.length c v (hasId L v.f0) fin q1 q2 oid po day hv' h.c0 h.c1 h.c2 h.f0 (cellsL L) h.own (fun g hg => ⟨(h.ob g hg).1, (h.ob g hg).2.1, (h.ob g hg).2.2.1, h.lt _ (h.ob g hg).2.2.2⟩) (by omega) hlast hL hI hpo (h.lt _ h.lb) (h.lt _ h.li) (h.lt _ h.ls) n1 n2 Di Ds kl hk s0 K51 (by have := h.mil; unfold maxLen; omega) (by have := h.msl; unfold maxLen; omega) h.ne h.mi h.ms).mono ?_
      rintro e w' ⟨code, rfl, hD, hB, hO⟩
      have hcode := dec_of hD hv rfl hday hcur
      refine ⟨by rw [hcode], ?_⟩
      by_cases h0 : code = 0
      · have hd0 : dec L v = 0 := by rw [← hcode]; exact h0
        obtain ⟨g1, g2⟩ := dec_good h.good hd0
        have := okw_reg h g1 hv g2 hk (hO h0)
        unfold step
        rw [if_pos hd0]
        exact this
      · have hb := hB h0
        refine ⟨?_, KeepF.of_below hb⟩
        unfold step
        rw [if_neg (by rw [← hcode]; exact h0)]
        exact RegF.ext ⟨A, c, bi, bs, n1, n2, Di, Ds, h⟩ hb
    cases hc : cur L v.f1 v.f2 with
    | none =>
      rw [hc] at hs
      exact main none ⟨#[]⟩ false (look44 h.ms hk (hs _)) (fun p hp => by cases hp) (.inl ⟨rfl, hc⟩)
    | some o =>
      rw [hc] at hs
      obtain ⟨g, g1, g2, g3, g4, g5, g6, g7⟩ := hs
      exact main (some ⟨g, 0, none⟩) o.f0 o.f5 (look44 h.ms hk (g7 _)) (fun p hp => by
        obtain rfl := Option.some.inj hp
        exact ⟨g, rfl, h.lt _ g1, (blk_cell g2 0).trans rfl, (blk_cell g2 5).trans rfl⟩) (.inr ⟨o, by simp, hc, rfl, rfl⟩)

theorem cur_some {L : List S32} {v : S32} (h : v ∈ L) : ∃ o, cur L v.f1 v.f2 = some o := by
  rcases hc : cur L v.f1 v.f2 with _ | o
  · exfalso
    unfold cur at hc
    have := List.getLast?_eq_none_iff.1 hc
    have hm : v ∈ L.filter fun x => decide (x.f1 = v.f1 ∧ x.f2 = v.f2) := List.mem_filter.2 ⟨h, by simp⟩
    rw [this] at hm
    simp at hm
  · exact ⟨o, rfl⟩
theorem value_calls (w : World) (F : Nat → Prop) (b : Nat) (L : List S32) (m q : ByteArray) (h : RegF w F b L) (hm : m.size ≤ maxLen) (hq : q.size ≤ maxLen) :
    Calls Tryd.prog 17 #[.pointer (some ⟨b, 0, none⟩), .string m, .string q] w fun e w' => e = .returned (.tuple #[.int .i64 (val L m q).1, .bool (val L m q).2]) ∧ w' = w := by
  obtain ⟨A, c, bi, bs, n1, n2, Di, Ds, h⟩ := h
  obtain ⟨kl, hk⟩ := key51 m q hm hq
  have hs := h.sat _ _ kl hk
  unfold val
  cases hc : cur L m q with
  | none =>
    rw [hc] at hs
    exact value_raw m q w b bs none h.c2 (look44 h.ms hk (hs _) w rfl) 0 (fun p hp => by cases hp)
  | some o =>
    rw [hc] at hs
    obtain ⟨g, g1, g2, g3, g4, g5, g6, g7⟩ := hs
    exact value_raw m q w b bs (some ⟨g, 0, none⟩) h.c2 (look44 h.ms hk (g7 _) w rfl) o.f3 (fun p hp => by
      obtain rfl := Option.some.inj hp
      exact ⟨g, rfl, (blk_cell g2 3).trans rfl⟩)
theorem stands_calls (w : World) (F : Nat → Prop) (b : Nat) (L : List S32) (id : ByteArray) (h : RegF w F b L) (hid : id.size ≤ maxLen) :
    Calls Tryd.prog 15 #[.pointer (some ⟨b, 0, none⟩), .string id] w fun e w' => e = .returned (.bool (st L id)) ∧ Below w.heap.size w w' := by
  obtain ⟨A, c, bi, bs, n1, n2, Di, Ds, h⟩ := h
  rcases hi : hasId L id with _ | _
  · have hst : st L id = false := by unfold st; rw [find_none hi]
    have hI := look43 h.mi hid (atKey_of_not_has (by rw [h.ihas _ hid]; exact hi) _) w rfl
    rw [h.ihas _ hid, hi] at hI
    have := stands_raw id w b bi bs (h.lt _ h.lb) ⟨#[]⟩ ⟨#[]⟩ ⟨#[]⟩ false h.c1 h.c2 hI (fun h => by cases h) 0 (fun h => by cases h) (fun h => by cases h)
    rw [hst]
    exact this
  · obtain ⟨x, hx, hxe⟩ := List.any_eq_true.1 hi
    obtain rfl := of_decide_eq_true hxe
    have hI := look43 h.mi hid (h.iat x hx _) w rfl
    rw [h.ihas _ hid, hi] at hI
    obtain ⟨t0, t1, t2⟩ := vd_parts (h.good.1 x hx)
    obtain ⟨kl, hk⟩ := key51 x.f1 x.f2 (small_max (tok_size t1)) (small_max (tok_size t2))
    have hs := h.sat _ _ kl hk
    obtain ⟨o, hc⟩ := cur_some hx
    rw [hc] at hs
    obtain ⟨g, g1, g2, g3, g4, g5, g6, g7⟩ := hs
    have hst : st L x.f0 = (o.f0.toList == x.f0.toList) := by unfold st; rw [find_id h.good hx]; simp only [hc]
    have := stands_raw x.f0 w b bi bs (h.lt _ h.lb) x.f1 x.f2 o.f0 true h.c1 h.c2 hI (fun _ => tok_ne t1) g (fun _ w' hb => look44 h.ms hk (g7 _) w' (hb.block bs (h.lt _ h.ls))) (fun _ => ⟨h.lt _ g1, (blk_cell g2 0).trans rfl⟩)
    rw [hst]
    exact this
theorem list_calls (w : World) (F : Nat → Prop) (b : Nat) (L : List S32) (h : RegF w F b L) (hn : L.length ≤ 1000000) :
    Calls Tryd.prog 20 #[.pointer (some ⟨b, 0, none⟩)] w fun e w' => ∃ v, e = .returned v ∧ w'.ownsRow w.heap.size 32 7 v L.length (cellsL L) ∧ Below w.heap.size w w' := by
  obtain ⟨A, c, bi, bs, n1, n2, Di, Ds, h⟩ := h
  exact list_raw w b _ L.length (cellsL L) h.c0 h.own (cellsL_one L) (by omega)
end Go.Proofs.YtbmmedoopjjbkaaDoor.Fin
