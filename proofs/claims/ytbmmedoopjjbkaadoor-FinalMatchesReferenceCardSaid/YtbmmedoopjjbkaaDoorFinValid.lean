/- The validity of a verdict, walked: its names are single tokens. -/
import Derived.Test.YtbmmedoopjjbkaaDoorFinBase
import Derived.Test.YtbmmedoopjjbkaaDoorLexMain
namespace Go.Proofs.YtbmmedoopjjbkaaDoor.Fin
open Go.RowKit Go.Proofs.YtbmmedoopjjbkaaDoor.H Go.Proofs.YtbmmedoopjjbkaaDoorW.PrintWords Go.Proofs.YtbmmedoopjjbkaaDoorW.PrintLast Go.Proofs.YtbmmedoopjjbkaaDoorW.PrintMore
set_option linter.unusedVariables false
attribute [local go_sem] Oper.semAt_some

/-- A text is one token, a name. -/
def tokL (xs : List Lex.Fd) (er : Int) (s : ByteArray) : Bool := er == 0 && (xs.length == 1 && (xs.all fun x => x.kind == 1 && ((⟨x.text.toArray⟩ : ByteArray).toList == s.toList)))
def tokB (s : ByteArray) : Bool := tokL (Lex.lex s.data.toList).1 (Lex.lex s.data.toList).2.1 s
theorem own_some {W : World} {base : Nat} {e : TypeId} {size : Nat} {v : Value} {k : Nat} {xs : List Value} (hk : 0 < k * size) (h : W.ownsRow base e size v k xs) : ∃ g c cur, v = .slice (some ⟨g, 0, none⟩) k c ∧ W.heap[g]? = some (.cells cur e (0, 0)) := by
  obtain ⟨hl, ⟨rfl, rfl⟩ | ⟨g, cap, cur, rfl, hg, hh, r⟩⟩ := h
  · simp at hl; omega
  · exact ⟨g, cap, cur, rfl, hh⟩

set_option maxRecDepth 100000 in
set_option maxHeartbeats 1000000 in
theorem name_raw (s : ByteArray) (w : World) (xs : List Lex.Fd) (er off : Int)
    (hc : Calls Tryd.prog 29 #[.string s] w fun e w' => ∃ v, e = .returned (.tuple #[v, .int .i64 er, .int .i64 off]) ∧ w'.ownsRow w.heap.size 60 4 v xs.length (Lex.toks xs) ∧ Below w.heap.size w w') :
    Calls Tryd.prog 28 #[.string s] w fun e w' => ∃ r, e = .returned (.bool r) ∧ r = tokL xs er s ∧ Below w.heap.size w w' := by
  by_cases he : er = 0
  · subst he
    by_cases hl : xs.length = 1
    · obtain ⟨x, rfl⟩ := List.length_eq_one_iff.1 hl
      clear hl
      by_cases hk : x.kind = 1
      · have hq : (x.kind == 1) = true := beq_iff_eq.2 hk
        have HK := Aside0.mk hk
        clear hk
        go_enter Tryd.func28, Tryd.ntmps28
        go_wp2_with ((with_reducible refine gate_callee (f := 29) rfl ?_); (refine goesL_ (some 8) rfl rfl Tryd.func29 (by kernel_rfl) rfl #[.string s] rfl (by (try simp only [List.map_toArray, List.map_cons, List.map_nil]); first | done | rfl) ?_; (with_reducible refine hc.mono ?_); rintro e w2 ⟨v, rfl, ho, hb2⟩; obtain ⟨g, cc1, cur, rfl, hg1⟩ := own_some (by simp) ho; have k0 : w2.cell? ⟨g, 0, none⟩ = some (.int .i64 x.kind) := ho.cellAt 0 (by simp); have k1 : w2.cell? ⟨g, 1, none⟩ = some (.string ⟨x.text.toArray⟩) := ho.cellAt 1 (by simp); have HB2 := Aside0.mk hb2; clear ho hb2 hg1; refine ⟨_, rfl, ?_⟩))
        go_ret
        exact ⟨_, rfl, by simp [tokL, HK.out], (by repeat (first | exact HB2.out | apply below_drew1 | apply pw_below_drewN))⟩
      · have hq : (x.kind == 1) = false := beq_eq_false_iff_ne.2 hk
        have HK := Aside0.mk hk
        clear hk
        go_enter Tryd.func28, Tryd.ntmps28
        go_wp2_with ((with_reducible refine gate_callee (f := 29) rfl ?_); (refine goesL_ (some 8) rfl rfl Tryd.func29 (by kernel_rfl) rfl #[.string s] rfl (by (try simp only [List.map_toArray, List.map_cons, List.map_nil]); first | done | rfl) ?_; (with_reducible refine hc.mono ?_); rintro e w2 ⟨v, rfl, ho, hb2⟩; obtain ⟨g, cc1, cur, rfl, hg1⟩ := own_some (by simp) ho; have k0 : w2.cell? ⟨g, 0, none⟩ = some (.int .i64 x.kind) := ho.cellAt 0 (by simp); have k1 : w2.cell? ⟨g, 1, none⟩ = some (.string ⟨x.text.toArray⟩) := ho.cellAt 1 (by simp); have HB2 := Aside0.mk hb2; clear ho hb2 hg1; refine ⟨_, rfl, ?_⟩))
        go_ret
        exact ⟨_, rfl, by simp [tokL, HK.out], (by repeat (first | exact HB2.out | apply below_drew1 | apply pw_below_drewN))⟩
    · have hq : ((xs.length : Int) == 1) = false := beq_eq_false_iff_ne.2 (by omega)
      have HL := Aside0.mk hl
      clear hl
      go_enter Tryd.func28, Tryd.ntmps28
      go_wp2_with ((with_reducible refine gate_callee (f := 29) rfl ?_); refine goesL_ (some 8) rfl rfl Tryd.func29 (by kernel_rfl) rfl #[.string s] rfl (by (try simp only [List.map_toArray, List.map_cons, List.map_nil]); first | done | rfl) ?_; (with_reducible refine hc.mono ?_); rintro e w2 ⟨v, rfl, ho, hb2⟩; obtain ⟨A1, cc1, rfl⟩ := own_slice ho; have HO := Aside0.mk ho; have HB2 := Aside0.mk hb2; clear ho hb2; refine ⟨_, rfl, ?_⟩)
      go_ret
      exact ⟨_, rfl, by simp [tokL, HL.out], (by repeat (first | exact HB2.out | apply below_drew1 | apply pw_below_drewN))⟩
  · have hq : (er == 0) = false := beq_eq_false_iff_ne.2 he
    have HE := Aside0.mk he
    clear he
    go_enter Tryd.func28, Tryd.ntmps28
    go_wp2_with ((with_reducible refine gate_callee (f := 29) rfl ?_); refine goesL_ (some 8) rfl rfl Tryd.func29 (by kernel_rfl) rfl #[.string s] rfl (by (try simp only [List.map_toArray, List.map_cons, List.map_nil]); first | done | rfl) ?_; (with_reducible refine hc.mono ?_); rintro e w2 ⟨v, rfl, ho, hb2⟩; obtain ⟨A1, cc1, rfl⟩ := own_slice ho; have HO := Aside0.mk ho; have HB2 := Aside0.mk hb2; clear ho hb2; refine ⟨_, rfl, ?_⟩)
    go_ret
    exact ⟨_, rfl, by simp [tokL, HE.out], (by repeat (first | exact HB2.out | apply below_drew1 | apply pw_below_drewN))⟩
theorem name_calls (s : ByteArray) (w : World) : Calls Tryd.prog 28 #[.string s] w fun e w' => e = .returned (.bool (tokB s)) ∧ Below w.heap.size w w' := by
  refine (name_raw s w _ _ _ (Lex.lex_calls s w)).mono ?_
  rintro e w' ⟨r, rfl, rfl, hb⟩
  exact ⟨rfl, hb⟩
/-- A verdict is valid. -/
def vd (v : S32) : Bool := tokB v.f0 && (tokB v.f1 && (tokB v.f2 && ((v.f6.toList == ([] : List UInt8) || tokB v.f6) && (decide (0 ≤ v.f3) && (decide (v.f3 ≤ 1000000) && (decide (0 ≤ v.f4) && decide (v.f4 ≤ 1000000)))))))
set_option maxRecDepth 100000 in
set_option maxHeartbeats 4000000 in
theorem valid_raw (v : S32) (w : World) : Calls Tryd.prog 24 #[.agg (vcells v)] w fun e w' => ∃ r, e = .returned (.bool r) ∧ r = vd v ∧ Below w.heap.size w w' := by
  unfold vcells
  have HB := Aside0.mk (Below.refl w.heap.size w)
  rcases e0 : tokB v.f0 with _ | _
  · skip
    go_enter Tryd.func24, Tryd.ntmps24
    go_wp2_with (first | ((with_reducible refine gate_dst (N := 1) rfl ?_); refine box_event ?hg (N := 1) ?hd (cs := #[.string v.f0, .string v.f1, .string v.f2, .int .i64 v.f3, .int .i64 v.f4, .bool v.f5, .string v.f6]) (t := 32) ?hr ?_; (case hd => rfl); (case hg => rfl); (case hr => first | (go_simp; done) | (go_simp; rfl)); intro gb hg w1 hbox hb; have HB1 := Aside0.mk (below_step HB.out hb); have BK := Aside0.mk hbox; clear hbox hg hb HB; have HB := HB1; clear HB1; have z0 := (blk_cell BK.out 0).trans rfl; have z1 := (blk_cell BK.out 1).trans rfl; have z2 := (blk_cell BK.out 2).trans rfl; have z3 := (blk_cell BK.out 3).trans rfl; have z4 := (blk_cell BK.out 4).trans rfl; have z5 := (blk_cell BK.out 5).trans rfl; have z6 := (blk_cell BK.out 6).trans rfl) | (go_at_call 28; refine (name_calls _ _).mono ?_; rintro e w2 ⟨rfl, hb2⟩; have HB1 := Aside0.mk (below_step HB.out hb2); have BK1 := Aside0.mk (blk_below BK.out hb2); clear z0 z1 z2 z3 z4 z5 z6; clear hb2 HB BK; have HB := HB1; have BK := BK1; clear HB1 BK1; have z0 := (blk_cell BK.out 0).trans rfl; have z1 := (blk_cell BK.out 1).trans rfl; have z2 := (blk_cell BK.out 2).trans rfl; have z3 := (blk_cell BK.out 3).trans rfl; have z4 := (blk_cell BK.out 4).trans rfl; have z5 := (blk_cell BK.out 5).trans rfl; have z6 := (blk_cell BK.out 6).trans rfl))
    go_ret
    exact ⟨_, rfl, by simp [vd, *], (by repeat (first | exact HB.out | apply below_drew1 | apply pw_below_drewN))⟩
  · skip
    rcases e1 : tokB v.f1 with _ | _
    · skip
      go_enter Tryd.func24, Tryd.ntmps24
      go_wp2_with (first | ((with_reducible refine gate_dst (N := 1) rfl ?_); refine box_event ?hg (N := 1) ?hd (cs := #[.string v.f0, .string v.f1, .string v.f2, .int .i64 v.f3, .int .i64 v.f4, .bool v.f5, .string v.f6]) (t := 32) ?hr ?_; (case hd => rfl); (case hg => rfl); (case hr => first | (go_simp; done) | (go_simp; rfl)); intro gb hg w1 hbox hb; have HB1 := Aside0.mk (below_step HB.out hb); have BK := Aside0.mk hbox; clear hbox hg hb HB; have HB := HB1; clear HB1; have z0 := (blk_cell BK.out 0).trans rfl; have z1 := (blk_cell BK.out 1).trans rfl; have z2 := (blk_cell BK.out 2).trans rfl; have z3 := (blk_cell BK.out 3).trans rfl; have z4 := (blk_cell BK.out 4).trans rfl; have z5 := (blk_cell BK.out 5).trans rfl; have z6 := (blk_cell BK.out 6).trans rfl) | (go_at_call 28; refine (name_calls _ _).mono ?_; rintro e w2 ⟨rfl, hb2⟩; have HB1 := Aside0.mk (below_step HB.out hb2); have BK1 := Aside0.mk (blk_below BK.out hb2); clear z0 z1 z2 z3 z4 z5 z6; clear hb2 HB BK; have HB := HB1; have BK := BK1; clear HB1 BK1; have z0 := (blk_cell BK.out 0).trans rfl; have z1 := (blk_cell BK.out 1).trans rfl; have z2 := (blk_cell BK.out 2).trans rfl; have z3 := (blk_cell BK.out 3).trans rfl; have z4 := (blk_cell BK.out 4).trans rfl; have z5 := (blk_cell BK.out 5).trans rfl; have z6 := (blk_cell BK.out 6).trans rfl))
      go_ret
      exact ⟨_, rfl, by simp [vd, *], (by repeat (first | exact HB.out | apply below_drew1 | apply pw_below_drewN))⟩
    · skip
      rcases e2 : tokB v.f2 with _ | _
      · skip
        go_enter Tryd.func24, Tryd.ntmps24
        go_wp2_with (first | ((with_reducible refine gate_dst (N := 1) rfl ?_); refine box_event ?hg (N := 1) ?hd (cs := #[.string v.f0, .string v.f1, .string v.f2, .int .i64 v.f3, .int .i64 v.f4, .bool v.f5, .string v.f6]) (t := 32) ?hr ?_; (case hd => rfl); (case hg => rfl); (case hr => first | (go_simp; done) | (go_simp; rfl)); intro gb hg w1 hbox hb; have HB1 := Aside0.mk (below_step HB.out hb); have BK := Aside0.mk hbox; clear hbox hg hb HB; have HB := HB1; clear HB1; have z0 := (blk_cell BK.out 0).trans rfl; have z1 := (blk_cell BK.out 1).trans rfl; have z2 := (blk_cell BK.out 2).trans rfl; have z3 := (blk_cell BK.out 3).trans rfl; have z4 := (blk_cell BK.out 4).trans rfl; have z5 := (blk_cell BK.out 5).trans rfl; have z6 := (blk_cell BK.out 6).trans rfl) | (go_at_call 28; refine (name_calls _ _).mono ?_; rintro e w2 ⟨rfl, hb2⟩; have HB1 := Aside0.mk (below_step HB.out hb2); have BK1 := Aside0.mk (blk_below BK.out hb2); clear z0 z1 z2 z3 z4 z5 z6; clear hb2 HB BK; have HB := HB1; have BK := BK1; clear HB1 BK1; have z0 := (blk_cell BK.out 0).trans rfl; have z1 := (blk_cell BK.out 1).trans rfl; have z2 := (blk_cell BK.out 2).trans rfl; have z3 := (blk_cell BK.out 3).trans rfl; have z4 := (blk_cell BK.out 4).trans rfl; have z5 := (blk_cell BK.out 5).trans rfl; have z6 := (blk_cell BK.out 6).trans rfl))
        go_ret
        exact ⟨_, rfl, by simp [vd, *], (by repeat (first | exact HB.out | apply below_drew1 | apply pw_below_drewN))⟩
      · skip
        rcases r0 : (v.f6.toList == ([] : List UInt8)) with _ | _
        · rcases r1 : tokB v.f6 with _ | _
          · skip
            go_enter Tryd.func24, Tryd.ntmps24
            go_wp2_with (first | ((with_reducible refine gate_dst (N := 1) rfl ?_); refine box_event ?hg (N := 1) ?hd (cs := #[.string v.f0, .string v.f1, .string v.f2, .int .i64 v.f3, .int .i64 v.f4, .bool v.f5, .string v.f6]) (t := 32) ?hr ?_; (case hd => rfl); (case hg => rfl); (case hr => first | (go_simp; done) | (go_simp; rfl)); intro gb hg w1 hbox hb; have HB1 := Aside0.mk (below_step HB.out hb); have BK := Aside0.mk hbox; clear hbox hg hb HB; have HB := HB1; clear HB1; have z0 := (blk_cell BK.out 0).trans rfl; have z1 := (blk_cell BK.out 1).trans rfl; have z2 := (blk_cell BK.out 2).trans rfl; have z3 := (blk_cell BK.out 3).trans rfl; have z4 := (blk_cell BK.out 4).trans rfl; have z5 := (blk_cell BK.out 5).trans rfl; have z6 := (blk_cell BK.out 6).trans rfl) | (go_at_call 28; refine (name_calls _ _).mono ?_; rintro e w2 ⟨rfl, hb2⟩; have HB1 := Aside0.mk (below_step HB.out hb2); have BK1 := Aside0.mk (blk_below BK.out hb2); clear z0 z1 z2 z3 z4 z5 z6; clear hb2 HB BK; have HB := HB1; have BK := BK1; clear HB1 BK1; have z0 := (blk_cell BK.out 0).trans rfl; have z1 := (blk_cell BK.out 1).trans rfl; have z2 := (blk_cell BK.out 2).trans rfl; have z3 := (blk_cell BK.out 3).trans rfl; have z4 := (blk_cell BK.out 4).trans rfl; have z5 := (blk_cell BK.out 5).trans rfl; have z6 := (blk_cell BK.out 6).trans rfl))
            go_ret
            exact ⟨_, rfl, by simp [vd, *], (by repeat (first | exact HB.out | apply below_drew1 | apply pw_below_drewN))⟩
          · skip
            rcases e4 : decide (0 ≤ v.f3) with _ | _
            · skip
              go_enter Tryd.func24, Tryd.ntmps24
              go_wp2_with (first | ((with_reducible refine gate_dst (N := 1) rfl ?_); refine box_event ?hg (N := 1) ?hd (cs := #[.string v.f0, .string v.f1, .string v.f2, .int .i64 v.f3, .int .i64 v.f4, .bool v.f5, .string v.f6]) (t := 32) ?hr ?_; (case hd => rfl); (case hg => rfl); (case hr => first | (go_simp; done) | (go_simp; rfl)); intro gb hg w1 hbox hb; have HB1 := Aside0.mk (below_step HB.out hb); have BK := Aside0.mk hbox; clear hbox hg hb HB; have HB := HB1; clear HB1; have z0 := (blk_cell BK.out 0).trans rfl; have z1 := (blk_cell BK.out 1).trans rfl; have z2 := (blk_cell BK.out 2).trans rfl; have z3 := (blk_cell BK.out 3).trans rfl; have z4 := (blk_cell BK.out 4).trans rfl; have z5 := (blk_cell BK.out 5).trans rfl; have z6 := (blk_cell BK.out 6).trans rfl) | (go_at_call 28; refine (name_calls _ _).mono ?_; rintro e w2 ⟨rfl, hb2⟩; have HB1 := Aside0.mk (below_step HB.out hb2); have BK1 := Aside0.mk (blk_below BK.out hb2); clear z0 z1 z2 z3 z4 z5 z6; clear hb2 HB BK; have HB := HB1; have BK := BK1; clear HB1 BK1; have z0 := (blk_cell BK.out 0).trans rfl; have z1 := (blk_cell BK.out 1).trans rfl; have z2 := (blk_cell BK.out 2).trans rfl; have z3 := (blk_cell BK.out 3).trans rfl; have z4 := (blk_cell BK.out 4).trans rfl; have z5 := (blk_cell BK.out 5).trans rfl; have z6 := (blk_cell BK.out 6).trans rfl))
              go_ret
              exact ⟨_, rfl, by simp [vd, *], (by repeat (first | exact HB.out | apply below_drew1 | apply pw_below_drewN))⟩
            · skip
              rcases e5 : decide (v.f3 ≤ 1000000) with _ | _
              · skip
                go_enter Tryd.func24, Tryd.ntmps24
                go_wp2_with (first | ((with_reducible refine gate_dst (N := 1) rfl ?_); refine box_event ?hg (N := 1) ?hd (cs := #[.string v.f0, .string v.f1, .string v.f2, .int .i64 v.f3, .int .i64 v.f4, .bool v.f5, .string v.f6]) (t := 32) ?hr ?_; (case hd => rfl); (case hg => rfl); (case hr => first | (go_simp; done) | (go_simp; rfl)); intro gb hg w1 hbox hb; have HB1 := Aside0.mk (below_step HB.out hb); have BK := Aside0.mk hbox; clear hbox hg hb HB; have HB := HB1; clear HB1; have z0 := (blk_cell BK.out 0).trans rfl; have z1 := (blk_cell BK.out 1).trans rfl; have z2 := (blk_cell BK.out 2).trans rfl; have z3 := (blk_cell BK.out 3).trans rfl; have z4 := (blk_cell BK.out 4).trans rfl; have z5 := (blk_cell BK.out 5).trans rfl; have z6 := (blk_cell BK.out 6).trans rfl) | (go_at_call 28; refine (name_calls _ _).mono ?_; rintro e w2 ⟨rfl, hb2⟩; have HB1 := Aside0.mk (below_step HB.out hb2); have BK1 := Aside0.mk (blk_below BK.out hb2); clear z0 z1 z2 z3 z4 z5 z6; clear hb2 HB BK; have HB := HB1; have BK := BK1; clear HB1 BK1; have z0 := (blk_cell BK.out 0).trans rfl; have z1 := (blk_cell BK.out 1).trans rfl; have z2 := (blk_cell BK.out 2).trans rfl; have z3 := (blk_cell BK.out 3).trans rfl; have z4 := (blk_cell BK.out 4).trans rfl; have z5 := (blk_cell BK.out 5).trans rfl; have z6 := (blk_cell BK.out 6).trans rfl))
                go_ret
                exact ⟨_, rfl, by simp [vd, *], (by repeat (first | exact HB.out | apply below_drew1 | apply pw_below_drewN))⟩
              · skip
                rcases e6 : decide (0 ≤ v.f4) with _ | _
                · skip
                  go_enter Tryd.func24, Tryd.ntmps24
                  go_wp2_with (first | ((with_reducible refine gate_dst (N := 1) rfl ?_); refine box_event ?hg (N := 1) ?hd (cs := #[.string v.f0, .string v.f1, .string v.f2, .int .i64 v.f3, .int .i64 v.f4, .bool v.f5, .string v.f6]) (t := 32) ?hr ?_; (case hd => rfl); (case hg => rfl); (case hr => first | (go_simp; done) | (go_simp; rfl)); intro gb hg w1 hbox hb; have HB1 := Aside0.mk (below_step HB.out hb); have BK := Aside0.mk hbox; clear hbox hg hb HB; have HB := HB1; clear HB1; have z0 := (blk_cell BK.out 0).trans rfl; have z1 := (blk_cell BK.out 1).trans rfl; have z2 := (blk_cell BK.out 2).trans rfl; have z3 := (blk_cell BK.out 3).trans rfl; have z4 := (blk_cell BK.out 4).trans rfl; have z5 := (blk_cell BK.out 5).trans rfl; have z6 := (blk_cell BK.out 6).trans rfl) | (go_at_call 28; refine (name_calls _ _).mono ?_; rintro e w2 ⟨rfl, hb2⟩; have HB1 := Aside0.mk (below_step HB.out hb2); have BK1 := Aside0.mk (blk_below BK.out hb2); clear z0 z1 z2 z3 z4 z5 z6; clear hb2 HB BK; have HB := HB1; have BK := BK1; clear HB1 BK1; have z0 := (blk_cell BK.out 0).trans rfl; have z1 := (blk_cell BK.out 1).trans rfl; have z2 := (blk_cell BK.out 2).trans rfl; have z3 := (blk_cell BK.out 3).trans rfl; have z4 := (blk_cell BK.out 4).trans rfl; have z5 := (blk_cell BK.out 5).trans rfl; have z6 := (blk_cell BK.out 6).trans rfl))
                  go_ret
                  exact ⟨_, rfl, by simp [vd, *], (by repeat (first | exact HB.out | apply below_drew1 | apply pw_below_drewN))⟩
                · skip
                  rcases e7 : decide (v.f4 ≤ 1000000) with _ | _
                  · skip
                    go_enter Tryd.func24, Tryd.ntmps24
                    go_wp2_with (first | ((with_reducible refine gate_dst (N := 1) rfl ?_); refine box_event ?hg (N := 1) ?hd (cs := #[.string v.f0, .string v.f1, .string v.f2, .int .i64 v.f3, .int .i64 v.f4, .bool v.f5, .string v.f6]) (t := 32) ?hr ?_; (case hd => rfl); (case hg => rfl); (case hr => first | (go_simp; done) | (go_simp; rfl)); intro gb hg w1 hbox hb; have HB1 := Aside0.mk (below_step HB.out hb); have BK := Aside0.mk hbox; clear hbox hg hb HB; have HB := HB1; clear HB1; have z0 := (blk_cell BK.out 0).trans rfl; have z1 := (blk_cell BK.out 1).trans rfl; have z2 := (blk_cell BK.out 2).trans rfl; have z3 := (blk_cell BK.out 3).trans rfl; have z4 := (blk_cell BK.out 4).trans rfl; have z5 := (blk_cell BK.out 5).trans rfl; have z6 := (blk_cell BK.out 6).trans rfl) | (go_at_call 28; refine (name_calls _ _).mono ?_; rintro e w2 ⟨rfl, hb2⟩; have HB1 := Aside0.mk (below_step HB.out hb2); have BK1 := Aside0.mk (blk_below BK.out hb2); clear z0 z1 z2 z3 z4 z5 z6; clear hb2 HB BK; have HB := HB1; have BK := BK1; clear HB1 BK1; have z0 := (blk_cell BK.out 0).trans rfl; have z1 := (blk_cell BK.out 1).trans rfl; have z2 := (blk_cell BK.out 2).trans rfl; have z3 := (blk_cell BK.out 3).trans rfl; have z4 := (blk_cell BK.out 4).trans rfl; have z5 := (blk_cell BK.out 5).trans rfl; have z6 := (blk_cell BK.out 6).trans rfl))
                    go_ret
                    exact ⟨_, rfl, by simp [vd, *], (by repeat (first | exact HB.out | apply below_drew1 | apply pw_below_drewN))⟩
                  · skip
                    go_enter Tryd.func24, Tryd.ntmps24
                    go_wp2_with (first | ((with_reducible refine gate_dst (N := 1) rfl ?_); refine box_event ?hg (N := 1) ?hd (cs := #[.string v.f0, .string v.f1, .string v.f2, .int .i64 v.f3, .int .i64 v.f4, .bool v.f5, .string v.f6]) (t := 32) ?hr ?_; (case hd => rfl); (case hg => rfl); (case hr => first | (go_simp; done) | (go_simp; rfl)); intro gb hg w1 hbox hb; have HB1 := Aside0.mk (below_step HB.out hb); have BK := Aside0.mk hbox; clear hbox hg hb HB; have HB := HB1; clear HB1; have z0 := (blk_cell BK.out 0).trans rfl; have z1 := (blk_cell BK.out 1).trans rfl; have z2 := (blk_cell BK.out 2).trans rfl; have z3 := (blk_cell BK.out 3).trans rfl; have z4 := (blk_cell BK.out 4).trans rfl; have z5 := (blk_cell BK.out 5).trans rfl; have z6 := (blk_cell BK.out 6).trans rfl) | (go_at_call 28; refine (name_calls _ _).mono ?_; rintro e w2 ⟨rfl, hb2⟩; have HB1 := Aside0.mk (below_step HB.out hb2); have BK1 := Aside0.mk (blk_below BK.out hb2); clear z0 z1 z2 z3 z4 z5 z6; clear hb2 HB BK; have HB := HB1; have BK := BK1; clear HB1 BK1; have z0 := (blk_cell BK.out 0).trans rfl; have z1 := (blk_cell BK.out 1).trans rfl; have z2 := (blk_cell BK.out 2).trans rfl; have z3 := (blk_cell BK.out 3).trans rfl; have z4 := (blk_cell BK.out 4).trans rfl; have z5 := (blk_cell BK.out 5).trans rfl; have z6 := (blk_cell BK.out 6).trans rfl))
                    go_ret
                    exact ⟨_, rfl, by simp [vd, *], (by repeat (first | exact HB.out | apply below_drew1 | apply pw_below_drewN))⟩
        · skip
          rcases e4 : decide (0 ≤ v.f3) with _ | _
          · skip
            go_enter Tryd.func24, Tryd.ntmps24
            go_wp2_with (first | ((with_reducible refine gate_dst (N := 1) rfl ?_); refine box_event ?hg (N := 1) ?hd (cs := #[.string v.f0, .string v.f1, .string v.f2, .int .i64 v.f3, .int .i64 v.f4, .bool v.f5, .string v.f6]) (t := 32) ?hr ?_; (case hd => rfl); (case hg => rfl); (case hr => first | (go_simp; done) | (go_simp; rfl)); intro gb hg w1 hbox hb; have HB1 := Aside0.mk (below_step HB.out hb); have BK := Aside0.mk hbox; clear hbox hg hb HB; have HB := HB1; clear HB1; have z0 := (blk_cell BK.out 0).trans rfl; have z1 := (blk_cell BK.out 1).trans rfl; have z2 := (blk_cell BK.out 2).trans rfl; have z3 := (blk_cell BK.out 3).trans rfl; have z4 := (blk_cell BK.out 4).trans rfl; have z5 := (blk_cell BK.out 5).trans rfl; have z6 := (blk_cell BK.out 6).trans rfl) | (go_at_call 28; refine (name_calls _ _).mono ?_; rintro e w2 ⟨rfl, hb2⟩; have HB1 := Aside0.mk (below_step HB.out hb2); have BK1 := Aside0.mk (blk_below BK.out hb2); clear z0 z1 z2 z3 z4 z5 z6; clear hb2 HB BK; have HB := HB1; have BK := BK1; clear HB1 BK1; have z0 := (blk_cell BK.out 0).trans rfl; have z1 := (blk_cell BK.out 1).trans rfl; have z2 := (blk_cell BK.out 2).trans rfl; have z3 := (blk_cell BK.out 3).trans rfl; have z4 := (blk_cell BK.out 4).trans rfl; have z5 := (blk_cell BK.out 5).trans rfl; have z6 := (blk_cell BK.out 6).trans rfl))
            go_ret
            exact ⟨_, rfl, by simp [vd, *], (by repeat (first | exact HB.out | apply below_drew1 | apply pw_below_drewN))⟩
          · skip
            rcases e5 : decide (v.f3 ≤ 1000000) with _ | _
            · skip
              go_enter Tryd.func24, Tryd.ntmps24
              go_wp2_with (first | ((with_reducible refine gate_dst (N := 1) rfl ?_); refine box_event ?hg (N := 1) ?hd (cs := #[.string v.f0, .string v.f1, .string v.f2, .int .i64 v.f3, .int .i64 v.f4, .bool v.f5, .string v.f6]) (t := 32) ?hr ?_; (case hd => rfl); (case hg => rfl); (case hr => first | (go_simp; done) | (go_simp; rfl)); intro gb hg w1 hbox hb; have HB1 := Aside0.mk (below_step HB.out hb); have BK := Aside0.mk hbox; clear hbox hg hb HB; have HB := HB1; clear HB1; have z0 := (blk_cell BK.out 0).trans rfl; have z1 := (blk_cell BK.out 1).trans rfl; have z2 := (blk_cell BK.out 2).trans rfl; have z3 := (blk_cell BK.out 3).trans rfl; have z4 := (blk_cell BK.out 4).trans rfl; have z5 := (blk_cell BK.out 5).trans rfl; have z6 := (blk_cell BK.out 6).trans rfl) | (go_at_call 28; refine (name_calls _ _).mono ?_; rintro e w2 ⟨rfl, hb2⟩; have HB1 := Aside0.mk (below_step HB.out hb2); have BK1 := Aside0.mk (blk_below BK.out hb2); clear z0 z1 z2 z3 z4 z5 z6; clear hb2 HB BK; have HB := HB1; have BK := BK1; clear HB1 BK1; have z0 := (blk_cell BK.out 0).trans rfl; have z1 := (blk_cell BK.out 1).trans rfl; have z2 := (blk_cell BK.out 2).trans rfl; have z3 := (blk_cell BK.out 3).trans rfl; have z4 := (blk_cell BK.out 4).trans rfl; have z5 := (blk_cell BK.out 5).trans rfl; have z6 := (blk_cell BK.out 6).trans rfl))
              go_ret
              exact ⟨_, rfl, by simp [vd, *], (by repeat (first | exact HB.out | apply below_drew1 | apply pw_below_drewN))⟩
            · skip
              rcases e6 : decide (0 ≤ v.f4) with _ | _
              · skip
                go_enter Tryd.func24, Tryd.ntmps24
                go_wp2_with (first | ((with_reducible refine gate_dst (N := 1) rfl ?_); refine box_event ?hg (N := 1) ?hd (cs := #[.string v.f0, .string v.f1, .string v.f2, .int .i64 v.f3, .int .i64 v.f4, .bool v.f5, .string v.f6]) (t := 32) ?hr ?_; (case hd => rfl); (case hg => rfl); (case hr => first | (go_simp; done) | (go_simp; rfl)); intro gb hg w1 hbox hb; have HB1 := Aside0.mk (below_step HB.out hb); have BK := Aside0.mk hbox; clear hbox hg hb HB; have HB := HB1; clear HB1; have z0 := (blk_cell BK.out 0).trans rfl; have z1 := (blk_cell BK.out 1).trans rfl; have z2 := (blk_cell BK.out 2).trans rfl; have z3 := (blk_cell BK.out 3).trans rfl; have z4 := (blk_cell BK.out 4).trans rfl; have z5 := (blk_cell BK.out 5).trans rfl; have z6 := (blk_cell BK.out 6).trans rfl) | (go_at_call 28; refine (name_calls _ _).mono ?_; rintro e w2 ⟨rfl, hb2⟩; have HB1 := Aside0.mk (below_step HB.out hb2); have BK1 := Aside0.mk (blk_below BK.out hb2); clear z0 z1 z2 z3 z4 z5 z6; clear hb2 HB BK; have HB := HB1; have BK := BK1; clear HB1 BK1; have z0 := (blk_cell BK.out 0).trans rfl; have z1 := (blk_cell BK.out 1).trans rfl; have z2 := (blk_cell BK.out 2).trans rfl; have z3 := (blk_cell BK.out 3).trans rfl; have z4 := (blk_cell BK.out 4).trans rfl; have z5 := (blk_cell BK.out 5).trans rfl; have z6 := (blk_cell BK.out 6).trans rfl))
                go_ret
                exact ⟨_, rfl, by simp [vd, *], (by repeat (first | exact HB.out | apply below_drew1 | apply pw_below_drewN))⟩
              · skip
                rcases e7 : decide (v.f4 ≤ 1000000) with _ | _
                · skip
                  go_enter Tryd.func24, Tryd.ntmps24
                  go_wp2_with (first | ((with_reducible refine gate_dst (N := 1) rfl ?_); refine box_event ?hg (N := 1) ?hd (cs := #[.string v.f0, .string v.f1, .string v.f2, .int .i64 v.f3, .int .i64 v.f4, .bool v.f5, .string v.f6]) (t := 32) ?hr ?_; (case hd => rfl); (case hg => rfl); (case hr => first | (go_simp; done) | (go_simp; rfl)); intro gb hg w1 hbox hb; have HB1 := Aside0.mk (below_step HB.out hb); have BK := Aside0.mk hbox; clear hbox hg hb HB; have HB := HB1; clear HB1; have z0 := (blk_cell BK.out 0).trans rfl; have z1 := (blk_cell BK.out 1).trans rfl; have z2 := (blk_cell BK.out 2).trans rfl; have z3 := (blk_cell BK.out 3).trans rfl; have z4 := (blk_cell BK.out 4).trans rfl; have z5 := (blk_cell BK.out 5).trans rfl; have z6 := (blk_cell BK.out 6).trans rfl) | (go_at_call 28; refine (name_calls _ _).mono ?_; rintro e w2 ⟨rfl, hb2⟩; have HB1 := Aside0.mk (below_step HB.out hb2); have BK1 := Aside0.mk (blk_below BK.out hb2); clear z0 z1 z2 z3 z4 z5 z6; clear hb2 HB BK; have HB := HB1; have BK := BK1; clear HB1 BK1; have z0 := (blk_cell BK.out 0).trans rfl; have z1 := (blk_cell BK.out 1).trans rfl; have z2 := (blk_cell BK.out 2).trans rfl; have z3 := (blk_cell BK.out 3).trans rfl; have z4 := (blk_cell BK.out 4).trans rfl; have z5 := (blk_cell BK.out 5).trans rfl; have z6 := (blk_cell BK.out 6).trans rfl))
                  go_ret
                  exact ⟨_, rfl, by simp [vd, *], (by repeat (first | exact HB.out | apply below_drew1 | apply pw_below_drewN))⟩
                · skip
                  go_enter Tryd.func24, Tryd.ntmps24
                  go_wp2_with (first | ((with_reducible refine gate_dst (N := 1) rfl ?_); refine box_event ?hg (N := 1) ?hd (cs := #[.string v.f0, .string v.f1, .string v.f2, .int .i64 v.f3, .int .i64 v.f4, .bool v.f5, .string v.f6]) (t := 32) ?hr ?_; (case hd => rfl); (case hg => rfl); (case hr => first | (go_simp; done) | (go_simp; rfl)); intro gb hg w1 hbox hb; have HB1 := Aside0.mk (below_step HB.out hb); have BK := Aside0.mk hbox; clear hbox hg hb HB; have HB := HB1; clear HB1; have z0 := (blk_cell BK.out 0).trans rfl; have z1 := (blk_cell BK.out 1).trans rfl; have z2 := (blk_cell BK.out 2).trans rfl; have z3 := (blk_cell BK.out 3).trans rfl; have z4 := (blk_cell BK.out 4).trans rfl; have z5 := (blk_cell BK.out 5).trans rfl; have z6 := (blk_cell BK.out 6).trans rfl) | (go_at_call 28; refine (name_calls _ _).mono ?_; rintro e w2 ⟨rfl, hb2⟩; have HB1 := Aside0.mk (below_step HB.out hb2); have BK1 := Aside0.mk (blk_below BK.out hb2); clear z0 z1 z2 z3 z4 z5 z6; clear hb2 HB BK; have HB := HB1; have BK := BK1; clear HB1 BK1; have z0 := (blk_cell BK.out 0).trans rfl; have z1 := (blk_cell BK.out 1).trans rfl; have z2 := (blk_cell BK.out 2).trans rfl; have z3 := (blk_cell BK.out 3).trans rfl; have z4 := (blk_cell BK.out 4).trans rfl; have z5 := (blk_cell BK.out 5).trans rfl; have z6 := (blk_cell BK.out 6).trans rfl))
                  go_ret
                  exact ⟨_, rfl, by simp [vd, *], (by repeat (first | exact HB.out | apply below_drew1 | apply pw_below_drewN))⟩
theorem valid_calls (v : S32) (w : World) : Calls Tryd.prog 24 #[.agg (vcells v)] w fun e w' => e = .returned (.bool (vd v)) ∧ Below w.heap.size w w' := by
  refine (valid_raw v w).mono ?_
  rintro e w' ⟨r, rfl, rfl, hb⟩
  exact ⟨rfl, hb⟩
end Go.Proofs.YtbmmedoopjjbkaaDoor.Fin
