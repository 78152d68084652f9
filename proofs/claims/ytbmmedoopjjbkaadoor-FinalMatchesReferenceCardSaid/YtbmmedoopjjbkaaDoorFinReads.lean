/- New, Value, Stands and List, walked. -/
import Derived.Test.YtbmmedoopjjbkaaDoorFinBase
import Derived.StillTailTactics
import Derived.RegionTactic
import Derived.BigRegion
import Derived.Deep.RegionLaw
import Derived.Laws.Cover3
namespace Go.Proofs.YtbmmedoopjjbkaaDoor.Fin
open Go.RowKit Go.Proofs.YtbmmedoopjjbkaaDoor.H Go.Proofs.YtbmmedoopjjbkaaDoorW.PrintWords Go.Proofs.YtbmmedoopjjbkaaDoorW.PrintLast Go.Proofs.YtbmmedoopjjbkaaDoorW.PrintMore
set_option linter.unusedVariables false
attribute [local go_sem] Oper.semAt_some

def newW (w : World) : World := ((w.alloc (.map #[] 0)).alloc (.map #[] 0)).alloc (.cells #[.slice none 0 0, .map (some w.heap.size), .map (some (w.heap.size + 1))] 46 (0, 0))
set_option maxRecDepth 100000 in
set_option maxHeartbeats 1000000 in
theorem new_raw (w : World) : Calls Tryd.prog 11 #[] w fun e w' => e = .returned (.pointer (some ⟨w.heap.size + 2, 0, none⟩)) ∧ w' = newW w := by
  have hmm := @run_makeMap Tryd.prog
  unfold newW
  go_enter Tryd.func11, Tryd.ntmps11
  go_wp2
  go_ret
  exact ⟨by simp, by simp⟩

set_option maxRecDepth 100000 in
set_option maxHeartbeats 1000000 in
theorem value_none (m q : ByteArray) (w : World) : Calls Tryd.prog 17 #[.pointer none, .string m, .string q] w fun e w' => e = .returned (.tuple #[.int .i64 0, .bool false]) ∧ w' = w := by
  go_enter Tryd.func17, Tryd.ntmps17
  go_wp2
  go_ret2
  exact ⟨rfl, rfl⟩
set_option maxRecDepth 100000 in
set_option maxHeartbeats 1000000 in
theorem value_raw (m q : ByteArray) (w : World) (b bs : Nat) (po : Option Addr) (c2 : w.cell? ⟨b, 2, none⟩ = some (.map (some bs)))
    (hL : (Instr.lookup 44 (.map (some bs)) (.agg #[.string m, .string q]) false).run Tryd.prog w = .ok (.pointer po) w) (val : Int) (hpo : ∀ p, po = some p → ∃ g, p = ⟨g, 0, none⟩ ∧ w.cell? ⟨g, 3, none⟩ = some (.int .i64 val)) :
    Calls Tryd.prog 17 #[.pointer (some ⟨b, 0, none⟩), .string m, .string q] w fun e w' => e = .returned (.tuple #[.int .i64 (if po.isSome then val else 0), .bool po.isSome]) ∧ w' = w := by
  cases po with
  | none =>
    clear hpo
    go_enter Tryd.func17, Tryd.ntmps17
    go_wp2
    go_ret2
    exact ⟨rfl, rfl⟩
  | some p =>
    obtain ⟨g, rfl, hc⟩ := hpo p rfl
    clear hpo
    go_enter Tryd.func17, Tryd.ntmps17
    go_wp2
    go_ret2
    exact ⟨rfl, rfl⟩

set_option maxRecDepth 100000 in
set_option maxHeartbeats 1000000 in
theorem stands_none (id : ByteArray) (w : World) : Calls Tryd.prog 15 #[.pointer none, .string id] w fun e w' => e = .returned (.bool false) ∧ w' = w := by
  go_enter Tryd.func15, Tryd.ntmps15
  go_wp2
  go_ret
  exact ⟨rfl, rfl⟩
set_option maxRecDepth 100000 in
set_option maxHeartbeats 1000000 in
theorem stands_raw (id : ByteArray) (w : World) (b bi bs : Nat) (lb : b < w.heap.size) (q1 q2 oid : ByteArray) (tw : Bool) (c1 : w.cell? ⟨b, 1, none⟩ = some (.map (some bi))) (c2 : w.cell? ⟨b, 2, none⟩ = some (.map (some bs)))
    (hI : (Instr.lookup 43 (.map (some bi)) (.string id) true).run Tryd.prog w = .ok (.tuple #[.agg #[.string q1, .string q2], .bool tw]) w)
    (hq : tw = true → q1.toList ≠ []) (g : Nat)
    (hL : tw = true → ∀ w' : World, Below w.heap.size w w' → (Instr.lookup 44 (.map (some bs)) (.agg #[.string q1, .string q2]) false).run Tryd.prog w' = .ok (.pointer (some ⟨g, 0, none⟩)) w')
    (hg : tw = true → g < w.heap.size ∧ w.cell? ⟨g, 0, none⟩ = some (.string oid)) :
    Calls Tryd.prog 15 #[.pointer (some ⟨b, 0, none⟩), .string id] w fun e w' => e = .returned (.bool (tw && (oid.toList == id.toList))) ∧ Below w.heap.size w w' := by
  have HB := Aside0.mk (Below.refl w.heap.size w)
  have HQ := Aside0.mk hq
  have HL := Aside0.mk hL
  have HG := Aside0.mk hg
  have C1 := Aside0.mk c1
  have C2 := Aside0.mk c2
  have HLB := Aside0.mk lb
  clear hq hL hg lb
  go_enter Tryd.func15, Tryd.ntmps15
  go_wp2_with ((with_reducible refine gate_dst (N := 5) rfl ?_); refine box_event ?hg (N := 5) ?hd (cs := #[.string (⟨#[]⟩ : ByteArray), .string (⟨#[]⟩ : ByteArray)]) (t := 51) ?hr ?_; (case hd => rfl); (case hg => rfl); (case hr => first | (go_simp; done) | (go_simp; rfl)); intro ga hg w3 hbox hb; have HB3 := Aside0.mk (below_step HB.out hb); have BKa := Aside0.mk hbox; have GA := Aside0.mk ((by rw [hg]; exact Nat.le_refl _) : w.heap.size ≤ ga); clear hg hb hbox HB hI c1 c2; have a0 := (blk_cell BKa.out 0).trans rfl; have a1 := (blk_cell BKa.out 1).trans rfl; have g0 := blk_frozen BKa.out 0; have g1 := blk_frozen BKa.out 1)
  refine wp_gen (fun V => V.heap[ga]? = some (.cells #[.string q1, .string q2] 51 (0, 0)) ∧ Below w.heap.size w V) ?_ ?_
  · refine ⟨?_, ?_⟩
    · with_reducible repeat (first | exact BKa.out | refine blk_put (cs := #[.string q1, .string (⟨#[]⟩ : ByteArray)]) ?_ 1 _ rfl | refine blk_put (cs := #[.string (⟨#[]⟩ : ByteArray), .string (⟨#[]⟩ : ByteArray)]) ?_ 0 _ rfl)
    · repeat (first | exact HB3.out | refine below_set ?_ GA.out)
  clear HB3 BKa a0 a1 g0 g1
  rintro V ⟨BKa, HV⟩
  replace BKa := Aside0.mk BKa
  replace HV := Aside0.mk HV
  have a0 := (blk_cell BKa.out 0).trans rfl
  have a1 := (blk_cell BKa.out 1).trans rfl
  have c1 := (HV.out.cell (p := ⟨b, 1, none⟩) HLB.out).trans C1.out
  have c2 := (HV.out.cell (p := ⟨b, 2, none⟩) HLB.out).trans C2.out
  cases tw with
  | false =>
    go_quiet (fail)
    go_wp2
    go_ret
    exact ⟨rfl, by repeat (first | exact HV.out | apply below_drew1 | apply pw_below_drewN)⟩
  | true =>
    have e1 : (q1.toList == ([] : List UInt8)) = false := beq_eq_false_iff_ne.2 (HQ.out rfl)
    have e4 : ∀ k : Nat, (Instr.lookup 44 (.map (some bs)) (.agg #[.string q1, .string q2]) false).run Tryd.prog (V.drewN k) = .ok (.pointer (some ⟨g, 0, none⟩)) (V.drewN k) := fun k => HL.out rfl _ (pw_below_drewN HV.out k)
    have y0 := (HV.out.cell (p := ⟨g, 0, none⟩) (HG.out rfl).1).trans (HG.out rfl).2
    go_quiet (fail)
    go_wp2
    go_ret
    exact ⟨rfl, by repeat (first | exact HV.out | apply below_drew1 | apply pw_below_drewN)⟩

set_option maxRecDepth 100000 in
set_option maxHeartbeats 1000000 in
theorem clone_none (w : World) : Calls Tryd.prog 27 #[.slice none 0 0] w fun e w' => e = .returned (.slice none 0 0) ∧ w' = w := by
  have heq : ∀ w' : World, (binOp .eql 22 (.slice none 0 0) (.slice none 0 0)).run Tryd.prog w' = .ok (.bool true) w' := by
    intro w'
    simp only [binOp]
    simp [run_equal_slice_nil w' 22 32 none 0 0 Tryd.underlying22]
  go_enter Tryd.func27, Tryd.ntmps27
  go_wp2
  go_ret
  exact ⟨rfl, rfl⟩
set_option maxRecDepth 100000 in
set_option maxHeartbeats 1000000 in
theorem clone_raw (ad : Addr) (n c : Nat) (xs : List Value) (w : World) (hl : xs.length = n * 7) (hc : ∀ j u, xs[j]? = some u → w.cell? (ad.add j) = some u) (h1 : ∀ u ∈ xs, u.oneCell' = true) (hn : n ≤ 1000000000) (hb : ad.block < w.heap.size) :
    Calls Tryd.prog 27 #[.slice (some ad) n c] w fun e w' => ∃ v, e = .returned v ∧ w'.ownsRow w.heap.size 32 7 v n xs ∧ Below w.heap.size w w' := by
  obtain ⟨i0, hi, hz0, hz1, hz2⟩ := info_parts info32
  have HN := Aside0.mk hn
  clear hn
  have heq : ∀ w' : World, (binOp .eql 22 (.slice (some ad) n c) (.slice none 0 0)).run Tryd.prog w' = .ok (.bool false) w' := by
    intro w'
    simp only [binOp]
    simp [run_equal_slice_nil w' 22 32 (some ad) n c Tryd.underlying22]
  go_enter Tryd.func27, Tryd.ntmps27
  go_wp2_with (at_builtin; refine wpList_append_own_at _ rfl _ _ 22 rfl w.heap.size 32 i0 _ 7 88 Tryd.underlying22 hi hz0 hz1 hz2 rfl (by decide) (.slice (some ⟨w.heap.size, 0, none⟩) 0 0) 0 [] rfl (World.ownsRow_lit w #[] 0 (Nat.le_refl _) (by decide) rfl) ad n c xs rfl hl (fun j u h => ((Below.refl w.heap.size w).alloc (Nat.le_refl _) _).cell (by rw [add_block]; exact hb) |>.trans (hc j u h)) h1 (by have := HN.out; unfold maxLen; omega) (by have := HN.out; omega) (by simp) ?_; intro v' w1 ho hg hnil hat)
  go_ret
  refine ⟨v', rfl, by simpa using ho, ((Below.refl w.heap.size w).alloc (Nat.le_refl _) _).grown hg (by simp) (fun k hk => ?_)⟩
  have : k = w.heap.size := by simpa [Value.ownBlock] using hk.symm
  omega
set_option maxRecDepth 100000 in
set_option maxHeartbeats 1000000 in
theorem list_nil (w : World) : Calls Tryd.prog 20 #[.pointer none] w fun e w' => e = .returned (.slice none 0 0) ∧ w' = w := by
  go_enter Tryd.func20, Tryd.ntmps20
  go_wp2
  go_ret
  exact ⟨rfl, rfl⟩
set_option maxRecDepth 100000 in
set_option maxHeartbeats 1000000 in
/-- List hands out a copy. -/
theorem list_raw (w : World) (b : Nat) (v : Value) (n : Nat) (xs : List Value) (c0 : w.cell? ⟨b, 0, none⟩ = some v) (ho : w.ownsRow 0 32 7 v n xs) (h1 : ∀ u ∈ xs, u.oneCell' = true) (hn : n ≤ 1000000000) :
    Calls Tryd.prog 20 #[.pointer (some ⟨b, 0, none⟩)] w fun e w' => ∃ v, e = .returned v ∧ w'.ownsRow w.heap.size 32 7 v n xs ∧ Below w.heap.size w w' := by
  obtain ⟨hl, ⟨rfl, rfl⟩ | ⟨g, cap, cur, rfl, hg, hh, hcap, hmx, hsz, htake⟩⟩ := ho
  · obtain rfl : xs = [] := List.length_eq_zero_iff.1 (by omega)
    go_enter Tryd.func20, Tryd.ntmps20
    go_wp2_with (go_at_call 27; refine (clone_none _).mono ?_; rintro e w2 ⟨rfl, rfl⟩)
    go_ret
    exact ⟨_, rfl, World.ownsRow_nil _ _ _ _, Below.refl _ _⟩
  · have hcl := clone_raw ⟨g, 0, none⟩ n cap xs w hl (fun j u hj => by
      have := World.ownsRow.cells (w := w) (base := 0) (e := 32) (size := 7) (v := .slice (some ⟨g, 0, none⟩) n cap) (n := n) (xs := xs) ⟨hl, .inr ⟨g, cap, cur, rfl, hg, hh, hcap, hmx, hsz, htake⟩⟩ (g := g) rfl
      exact this j u hj) h1 hn (blk_lt hh)
    clear hl hh hcap hmx hsz htake hg
    go_enter Tryd.func20, Tryd.ntmps20
    go_wp2_with (go_at_call 27; refine hcl.mono ?_; rintro e w2 ⟨v, rfl, ho, hb⟩; have HO := Aside0.mk ho; have HB := Aside0.mk hb; clear ho hb)
    go_ret
    exact ⟨_, rfl, HO.out, HB.out⟩
end Go.Proofs.YtbmmedoopjjbkaaDoor.Fin
