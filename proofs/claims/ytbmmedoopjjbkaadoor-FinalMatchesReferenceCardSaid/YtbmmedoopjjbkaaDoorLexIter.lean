/- The lexer's iterator: all that it yields, in order; whatever its round does, as long as it keeps what lay below and the iterator's own variable. -/
import Derived.Test.YtbmmedoopjjbkaaDoorLexWalk2
import Derived.RangeFuncNested
import Derived.RangeFuncBound
import Derived.RangeFuncCalls
import Derived.RangeFuncLeaves
import Derived.Shelf.Abstract
import Derived.Shelf.RegionOpen
import Derived.OwnWalkIn
import Derived.TacticsInMore
import Derived.LoopNIn
import Derived.LoopIn
import Derived.Sort.CutIn
import Derived.WalkMore
import Derived.Lib.AtoiErrMem
namespace Go.Proofs.YtbmmedoopjjbkaaDoor.Lex
open Go.RowKit Go.Shelf
set_option linter.unusedVariables false
attribute [local go_sem] Oper.semAt_some

theorem wpIn_scope_wide {n : Nat} {P : Program} {c : Code} {Q : Exit → Act → World → Prop} {a : Act} {w : World} (h : c.wpIn Fence.wide n P (Exit.noGoto Q) a w) :
    (Code.scope c).wpIn Fence.wide n P Q a w := wpIn_wide.2 (wp_scope_straight (wpIn_wide.1 h))

/-- What is yielded. -/
def enc (x : Fd) : Array Value := #[.agg #[.int .i64 x.kind, .string ⟨x.text.toArray⟩, .int .i64 x.n, .int .i64 (x.pos : Int), .int .i64 x.err]]
/-- What a round keeps: each variable of the iterator's own types. -/
def KF (W W' : World) : Prop := W.heap.size ≤ W'.heap.size ∧ ∀ (k : Nat) (cs : Array Value) (t : TypeId), (t = 9 ∨ t = 66 ∨ t = 68 ∨ t = 65) → W.heap[k]? = some (Obj.cells cs t (0, 0)) → W'.heap[k]? = some (Obj.cells cs t (0, 0))
theorem KF.refl (W : World) : KF W W := ⟨Nat.le_refl _, fun _ _ _ _ h => h⟩
theorem KF.trans {A B C : World} (h : KF A B) (k : KF B C) : KF A C := ⟨Nat.le_trans h.1 k.1, fun q cs t ht hq => k.2 q cs t ht (h.2 q cs t ht hq)⟩
theorem KF.of_below {W W' : World} (h : Below W.heap.size W W') : KF W W' := ⟨h.size, fun q cs t _ hq => (h.block q (Array.getElem?_eq_some_iff.1 hq).1).trans hq⟩

/-- All that is yielded. -/
def all (s : ByteArray) : List Fd := lexL (s.size + 1) 0 s.data.toList

theorem grown_of_below {W W' : World} (h : Below W.heap.size W W') : W.grownBy W' none := ⟨h.os, h.tape, h.output, h.size, fun k hk _ => h.block k hk⟩
theorem drop_here {s : ByteArray} {k : Nat} (hk : k < s.size) : s.data.toList.drop k = s[k] :: s.data.toList.drop (k + 1) := by
  have h : k < s.data.toList.length := by rw [Array.length_toList]; exact hk
  rw [List.drop_eq_getElem_cons h]
  rfl
theorem step_tok {s : ByteArray} {g k : Nat} {pre : List Fd} (hF : all s = pre ++ lexL (g + 1) k (s.data.toList.drop k)) (hk : k < s.size) (x : Fd)
    (hx : x = tok1 k (s[k]'hk) (s.data.toList.drop (k + 1))) (hc : cls (s[k]'hk) ≠ 1 ∧ cls (s[k]'hk) ≠ 2) :
    all s = (pre ++ [x]) ++ (if x.err = 0 then lexL g (k + x.text.length) (s.data.toList.drop (k + x.text.length)) else []) := by
  rw [hF, drop_here hk, lexL_tok hc.1 hc.2, List.append_assoc, ← hx, ← drop_here hk, List.drop_drop]
  rfl
theorem extract_tok (s : ByteArray) (k : Nat) (hk : k < s.size) (x : Fd) (j : Nat) (hx : x = tok1 k (s[k]'hk) (s.data.toList.drop (k + 1))) (hj : j = k + x.text.length) :
    s.extract k j = ⟨x.text.toArray⟩ := by
  apply ByteArray.ext
  apply Array.ext'
  rw [Lib.extract_data, drop_here hk, show j - k = x.text.length by omega, hx, tok1_take]

theorem hash_notNl {b : UInt8} (h : cls b = 2) : notNl b = true := by
  unfold notNl
  rw [Bool.not_eq_true', beq_eq_false_iff_ne]
  rintro rfl
  exact absurd h (by decide)
theorem hash_gt {s : ByteArray} {k : Nat} (hk : k < s.size) (h : cls (s[k]'hk) = 2) : k < span notNl s.data.toList k := by
  have hl : k < s.data.toList.length := by rw [Array.length_toList]; exact hk
  rw [span_yes hl (hash_notNl h)]
  exact le_span _ _ (k + 1)
theorem hash_step {s : ByteArray} {g k : Nat} (hk : k < s.size) (h : cls (s[k]'hk) = 2) :
    lexL (g + 1) k (s.data.toList.drop k) = lexL g (span notNl s.data.toList k) (s.data.toList.drop (span notNl s.data.toList k)) := by
  have hl : k < s.data.toList.length := by rw [Array.length_toList]; exact hk
  rw [span_yes hl (hash_notNl h), drop_here hk, lexL_hash h, dropWhile_eq_drop, List.drop_drop]
  rfl

theorem clsAt_in {s : ByteArray} {i : Nat} (h : i < s.size) : clsAt s i = cls (s[i]'h) := by unfold clsAt; rw [dif_pos h]
theorem clsAt_out {s : ByteArray} {i : Nat} (h : s.size ≤ i) : clsAt s i = 0 := by unfold clsAt; rw [dif_neg (by omega)]
theorem word_span {s : ByteArray} {k : Nat} {p : UInt8 → Bool} (hk : k < s.size) (h : p (s[k]'hk) = true) : span p s.data.toList k = k + 1 + ((s.data.toList.drop (k + 1)).takeWhile p).length := by
  unfold span; rw [drop_here hk, takeWhile_cons_yes h, List.length_cons]; omega

theorem headWord_at (s : ByteArray) (m : Nat) : headWord (s.data.toList.drop m) = (clsAt s m == 3 || clsAt s m == 5) := by
  rcases Nat.lt_or_ge m s.size with hm | hm
  · rw [drop_here hm, clsAt_in hm]; rfl
  · rw [clsAt_out hm, List.drop_eq_nil_of_le (by rw [Array.length_toList]; exact hm)]; rfl
theorem atoi_below (s : ByteArray) (n : Int) (hl : s.size ≤ 18) (h : Lib.atoi s.data.toList = some n) (w : World) :
    Calls Tryd.prog 35 #[.string s] w fun e w' => e = .returned (.tuple #[.int .i64 n, .nilIface]) ∧ Below w.heap.size w w' :=
  (Tryd.strconv_Atoi s n hl h w).mono fun e w' ⟨he, t, hw⟩ => ⟨he, by rw [hw]; exact Lib.bytesWorld_below _ _ _⟩

theorem at_wide (s : ByteArray) (hs : s.size ≤ 20000) (B C n : Nat) (wr : World) (eB : wr.heap[B]? = some (.cells #[.string s] 9 (0, 0))) (eC : wr.heap[C]? = some (.cells tblF 66 (0, 0))) :
    ∀ (m i : Nat) (W : World), Below wr.heap.size wr W → CallsIn Fence.wide m Tryd.prog 33 #[.int .i64 i, .pointer (some ⟨B, 0, none⟩), .pointer (some ⟨C, 0, none⟩)] W fun e w' => e = .returned (.int .u8 (clsAt s i : Int)) ∧ W = w' := by
  intro m i W hW
  have hlB := (Array.getElem?_eq_some_iff.1 eB).1
  have hlC := (Array.getElem?_eq_some_iff.1 eC).1
  have fB := (hW.block B hlB).trans eB
  have fC := (hW.block C hlC).trans eC
  exact callsIn_wide.2 (at_calls s (by omega) B C i W (by simp [World.cell?, fB]) (fun j hj => by simp only [World.cell?, fC]; simpa using tblF_get j hj))

set_option maxRecDepth 100000 in
set_option maxHeartbeats 4000000 in
theorem iter_in (n : Nat) (l B C : Nat) (s : ByteArray) (hs : s.size ≤ 20000) (J Jx : List Fd → World → Prop) (W0 : World)
    (hJ : AbidesFrom W0.heap.size J)
    (hY : ∀ pre x W, J pre W → pre.length < (all s).length → YieldAt Fence.wide (n - 1) Tryd.prog l (enc x) W fun e W' =>
      (e = .returned (.bool true) ∧ J (pre ++ [x]) W' ∧ KF W W') ∨ (e = .returned (.bool false) ∧ Jx (pre ++ [x]) W'))
    (hB : W0.heap[B]? = some (.cells #[.string s] 9 (0, 0))) (hC : W0.heap[C]? = some (.cells tblF 66 (0, 0)))
    (hD : W0.heap[C + 1]? = some (.cells #[.func (.func 33) #[] #[.pointer (some ⟨B, 0, none⟩), .pointer (some ⟨C, 0, none⟩)]] 68 (0, 0)))
    (h0 : J [] W0) :
    CallsIn Fence.wide n Tryd.prog 34 #[.func (.yield l) #[] #[], .pointer (some ⟨B, 0, none⟩), .pointer (some ⟨C + 1, 0, none⟩)] W0 fun e W' => (∃ v, e = .returned v) ∧
      ((∃ ys, ys = all s ∧ J ys W') ∨ (∃ pre, pre <+: all s ∧ Jx pre W')) := by
  have HY := Lib.hid hY
  have HJ := Lib.hid hJ
  clear hY hJ
  refine callsIn_of_wp Tryd.func34 rfl trivial ?_ rfl
  simp only [Tryd.ntmps34, List.size_toArray, List.length_cons, List.length_nil, Nat.reduceAdd, Nat.reduceSub, Array.replicate_succ, Array.replicate_zero, List.push_toArray, List.append_toArray, List.nil_append, List.cons_append]
  refine wpIn_scope_wide ?_
  gi_wp2
  refine wpIn_label ?_
  gi_wp2
  gi_loopg [4] (s.size + 1) (fun g i wr => ∃ (k : Nat) (pre : List Fd), i = .int .i64 k ∧ k ≤ s.size ∧ Hid (s.size - k < g) ∧ Hid (all s = pre ++ lexL g k (s.data.toList.drop k)) ∧ J pre wr ∧ KF W0 wr)
  case atStart => exact ⟨0, [], rfl, Nat.zero_le _, Lib.hid (by omega), Lib.hid rfl, h0, KF.refl _⟩
  case round =>
    obtain ⟨k, pre, rfl, hk, HG, HF, hJ, hb⟩ := hrel
    cases gk with
    | zero => exact absurd HG.out (by omega)
    | succ g =>
      have eB : wr.heap[B]? = some (.cells #[.string s] 9 (0, 0)) := hb.2 _ _ _ (.inl rfl) hB
      have eC : wr.heap[C]? = some (.cells tblF 66 (0, 0)) := hb.2 _ _ _ (.inr (.inl rfl)) hC
      have eD : wr.heap[C + 1]? = some (.cells #[.func (.func 33) #[] #[.pointer (some ⟨B, 0, none⟩), .pointer (some ⟨C, 0, none⟩)]] 68 (0, 0)) := hb.2 _ _ _ (.inr (.inr (.inl rfl))) hD
      have cB : wr.cell? ⟨B, 0, none⟩ = some (.string s) := by simp [World.cell?, eB]
      have cD : wr.cell? ⟨C + 1, 0, none⟩ = some (.func (.func 33) #[] #[.pointer (some ⟨B, 0, none⟩), .pointer (some ⟨C, 0, none⟩)]) := by simp [World.cell?, eD]
      have hbB : B < wr.heap.size := (Array.getElem?_eq_some_iff.1 eB).1
      have hbC : C + 1 < wr.heap.size := (Array.getElem?_eq_some_iff.1 eD).1
      have HAT := Lib.hid (at_wide s hs B C n wr eB eC)
      clear hB hC hD eB eC eD
      by_cases hlt : k < s.size
      · have hltz : (k : Int) < (s.size : Int) := by omega
        gi_wp2_with fail
        refine ⟨trivial, fun h => (by cases h), (HAT.out _ k _ ((Below.refl _ wr).alloc (Nat.le_refl _) _)).mono ?_⟩
        rintro e w' ⟨rfl, rfl⟩
        dsimp only
        gi_step
        gi_step
        gi_step
        gi_step
        gi_cut [4, 5, 6] from 10 (fun i4 i5 i6 W => ∃ (x : Fd) (j : Nat), i4 = .int .i64 j ∧ i5 = .int .i64 k ∧ i6 = .pointer (some ⟨wr.heap.size, 0, none⟩) ∧ Hid (x = tok1 k (s[k]'hlt) (s.data.toList.drop (k + 1))) ∧ Hid (j = k + x.text.length) ∧ Hid (cls (s[k]'hlt) ≠ 1 ∧ cls (s[k]'hlt) ≠ 2) ∧ k ≤ j ∧ j ≤ s.size ∧
          W.heap[wr.heap.size]? = some (.cells #[.int .i64 x.kind, .string ⟨#[]⟩, .int .i64 x.n, .int .i64 k, .int .i64 x.err] 65 (0, 0)) ∧ Below wr.heap.size wr W)
        case rest =>
          obtain ⟨x, j, rfl, rfl, rfl, Hx, Hj, Hc, hkj, hjs, hf, hbW⟩ := hcut
          have cB2 : wc.cell? ⟨B, 0, none⟩ = some (.string s) := (hbW.cell (p := ⟨B, 0, none⟩) hbB).trans cB
          have f1 : wc.cell? ⟨wr.heap.size, 1, none⟩ = some (.string ⟨#[]⟩) := by simp [World.cell?, hf]
          have f2 : wc.frozen? ⟨wr.heap.size, 1, none⟩ = false := by simp [World.frozen?, hf]
          have hext : s.extract k j = ⟨x.text.toArray⟩ := extract_tok s k hlt x j Hx.out Hj.out
          have hkjz : (k : Int) ≤ (j : Int) := by omega
          have hjsz : (j : Int) ≤ (s.size : Int) := by omega
          gi_upto_region 38 with (fail)
          have hF := step_tok (g := g) HF.out hlt x Hx.out Hc.out
          obtain ⟨W2, hW2⟩ : ∃ W2, wc.setCell ⟨wr.heap.size, 1, none⟩ (.string ⟨x.text.toArray⟩) = W2 := ⟨_, rfl⟩
          have hf2 : W2.heap[wr.heap.size]? = some (.cells #[.int .i64 x.kind, .string ⟨x.text.toArray⟩, .int .i64 x.n, .int .i64 k, .int .i64 x.err] 65 (0, 0)) := by
            rw [← hW2]; exact heap_setCell_same wc wr.heap.size 1 _ _ _ hf
          have hbW2 : Below wr.heap.size wr W2 := by rw [← hW2]; exact hbW.setCell (p := ⟨wr.heap.size, 1, none⟩) (Nat.le_refl _) _
          rw [hW2]
          clear hW2 hf f1 f2 hext cB2
          have HBW2 := Lib.hid hbW2
          have hJ2 := HJ.out pre wr W2 none hJ (grown_of_below hbW2) (fun r h => by cases h)
          obtain ⟨fn, tmps, assign, body, hy, hR⟩ := HY.out pre x W2 hJ2 (by rw [hF]; simp)
          have hp : x.pos = k := by rw [Hx.out]; exact tok1_pos _ _ _
          simp only [enc, hp] at hy
          have k0 : W2.cell? ⟨wr.heap.size, 0, none⟩ = some (.int .i64 x.kind) := by simp [World.cell?, hf2]
          have k1 : W2.cell? ⟨wr.heap.size, 1, none⟩ = some (.string ⟨x.text.toArray⟩) := by simp [World.cell?, hf2]
          have k2 : W2.cell? ⟨wr.heap.size, 2, none⟩ = some (.int .i64 x.n) := by simp [World.cell?, hf2]
          have k3 : W2.cell? ⟨wr.heap.size, 3, none⟩ = some (.int .i64 k) := by simp [World.cell?, hf2]
          have k4 : W2.cell? ⟨wr.heap.size, 4, none⟩ = some (.int .i64 x.err) := by simp [World.cell?, hf2]
          have HF2 := Lib.hid hf2
          clear hf2 hbW hbW2 hp
          have HFF := Lib.hid hF
          clear hF
          gi_wp2
          refine ⟨fun h => (by cases h), hR.mono ?_⟩
          rintro e W3 (⟨rfl, hJ3, hk3⟩ | ⟨rfl, hJx3⟩)
          · have hf3 := hk3.2 _ _ _ (.inr (.inr (.inr rfl))) HF2.out
            have k5 : W3.cell? ⟨wr.heap.size, 4, none⟩ = some (.int .i64 x.err) := by simp [World.cell?, hf3]
            have hb3 : KF W0 W3 := (hb.trans (KF.of_below HBW2.out)).trans hk3
            clear hf3
            by_cases he : x.err = 0
            · have he1 : (x.err != 0) = false := by rw [he]; rfl
              have hjk : k + 1 ≤ j := by have h1 := tok1_len (by rw [← Hx.out]; exact he); rw [← Hx.out] at h1; have h2 := Hj.out; omega
              have HG3 : Hid (s.size - j < g) := Lib.hid (by have := HG.out; omega)
              have HF3 : Hid (all s = (pre ++ [x]) ++ lexL g j (s.data.toList.drop j)) := Lib.hid (by have h := HFF.out; rw [if_pos he, ← Hj.out] at h; exact h)
              clear he
              gi_wp2
              gi_roundg g
              case measure => omega
              case rel => exact ⟨j, pre ++ [x], rfl, hjs, HG3, HF3, hJ3, hb3⟩
            · have he1 : (x.err != 0) = true := bne_iff_ne.2 he
              have HF3 : Hid (all s = pre ++ [x]) := Lib.hid (by have h := HFF.out; rw [if_neg he, List.append_nil] at h; exact h)
              clear he
              gi_wp2
              simp only [Exit.noGoto_ret]
              refine bodyPost_ret (results_none rfl _ _ _) rfl ?_
              exact ⟨⟨_, rfl⟩, .inl ⟨pre ++ [x], HF3.out.symm, hJ3⟩⟩
          · gi_wp2
            simp only [Exit.noGoto_ret]
            refine bodyPost_ret (results_none rfl _ _ _) rfl ?_
            exact ⟨⟨_, rfl⟩, .inr ⟨pre ++ [x], ⟨_, HFF.out.symm⟩, hJx3⟩⟩
        case first =>
          have hca : clsAt s k = cls (s[k]'hlt) := by unfold clsAt; rw [dif_pos hlt]
          have h9 := cls_le (s[k]'hlt)
          have HJA := Lib.hid (fun (o : Obj) => HJ.out pre wr (wr.alloc o) none hJ (World.grownBy_alloc wr o none) (fun r h => by cases h))
          have HBA := Lib.hid (fun (o : Obj) => hb.trans (KF.of_below ((Below.refl _ wr).alloc (Nat.le_refl _) o)))
          have hcase : cls (s[k]'hlt) = 1 ∨ cls (s[k]'hlt) = 2 ∨ cls (s[k]'hlt) = 3 ∨ cls (s[k]'hlt) = 4 ∨ cls (s[k]'hlt) = 6 ∨ cls (s[k]'hlt) = 7 ∨ cls (s[k]'hlt) = 8 ∨ (cls (s[k]'hlt) = 0 ∨ cls (s[k]'hlt) = 5) := by omega
          clear h9
          rcases hcase with h | h | h | h | h | h | h | h
          · rw [hca, h]
            have H := Lib.hid h
            clear h hca
            gi_wp2
            gi_roundg g
            case measure => omega
            case rel => exact ⟨k + 1, pre, rfl, by omega, Lib.hid (by have := HG.out; omega), Lib.hid (by have h := HF.out; rw [drop_here hlt, lexL_blank H.out] at h; exact h), HJA.out _, HBA.out _⟩
          · rw [hca, h]
            have H := Lib.hid h
            clear h hca
            gi_wp2
            gi_loop [4] (fun i => ∃ m : Nat, i = .int .i64 m ∧ k ≤ m ∧ m ≤ s.size ∧ Hid (span notNl s.data.toList m = span notNl s.data.toList k)) (fun i => s.size - (intOf i).toNat)
            case atStart => exact ⟨k, rfl, Nat.le_refl _, hk, Lib.hid rfl⟩
            case round =>
              obtain ⟨m, rfl, hkm, hms, HS⟩ := hrel
              by_cases hm : m < s.size
              · have hmz : (m : Int) < (s.size : Int) := by omega
                obtain ⟨v, hv⟩ : ∃ v : Nat, s[m].toNat = v := ⟨_, rfl⟩
                by_cases hb10 : v = 10
                · have e1 : ((v : Int) != 10) = false := by subst hb10; rfl
                  have HE : Hid (m = span notNl s.data.toList k) := Lib.hid (by rw [← HS.out]; exact (span_no (by rw [Array.length_toList]; exact hm) (by show notNl s[m] = false; unfold notNl; rw [UInt8.toNat_inj.1 (show s[m].toNat = (10 : UInt8).toNat by rw [hv, hb10]; rfl)]; rfl)).symm)
                  clear hb10
                  gi_wp2
                  gi_roundg g
                  case measure => omega
                  case rel => exact ⟨m, pre, rfl, hms, Lib.hid (by have := HG.out; have := hash_gt hlt H.out; have := HE.out; omega), Lib.hid (by have h := HF.out; rw [hash_step hlt H.out, ← HE.out] at h; exact h), HJA.out _, HBA.out _⟩
                · have e1 : ((v : Int) != 10) = true := bne_iff_ne.2 (by omega)
                  have HE : Hid (span notNl s.data.toList (m + 1) = span notNl s.data.toList k) := Lib.hid (by rw [← HS.out]; exact (span_yes (by rw [Array.length_toList]; exact hm) (by show notNl s[m] = true; unfold notNl; rw [Bool.not_eq_true', beq_eq_false_iff_ne]; intro h; rw [h] at hv; exact hb10 hv.symm)).symm)
                  clear hb10
                  gi_wp2
                  go_round
                  case rel => exact ⟨m + 1, by go_num, by omega, by omega, HE⟩
                  case measure => simp [intOf]; omega
              · have hmz : (s.size : Int) ≤ (m : Int) := by omega
                have HE : Hid (m = span notNl s.data.toList k) := Lib.hid (by rw [← HS.out]; exact (span_end _ _ _ (by rw [Array.length_toList]; exact Nat.le_of_not_lt hm)).symm)
                gi_wp2
                gi_roundg g
                case measure => omega
                case rel => exact ⟨m, pre, rfl, hms, Lib.hid (by have := HG.out; have := hash_gt hlt H.out; have := HE.out; omega), Lib.hid (by have h := HF.out; rw [hash_step hlt H.out, ← HE.out] at h; exact h), HJA.out _, HBA.out _⟩
          · rw [hca, h]
            have H := Lib.hid h
            have HW := Lib.hid (word_span hlt (by unfold isWord; rw [h]; rfl) (p := isWord))
            clear h hca
            have hl1 := span_le isWord s.data.toList k (by rw [Array.length_toList]; exact hk)
            rw [Array.length_toList] at hl1
            have HL1 := Lib.hid hl1
            clear hl1
            gi_wp2_with fail
            refine ⟨trivial, fun h => (by cases h), (HAT.out _ k _ ((Below.refl _ wr).alloc (Nat.le_refl _) _)).mono ?_⟩
            rintro e w' ⟨rfl, rfl⟩
            gi_wp2
            gi_loop [4, 7] (fun i c => ∃ m : Nat, i = .int .i64 m ∧ c = .int .u8 (clsAt s m : Int) ∧ k ≤ m ∧ m ≤ s.size ∧ Hid (span isWord s.data.toList m = span isWord s.data.toList k)) (fun i _ => s.size - (intOf i).toNat)
            case atStart => exact ⟨k, rfl, rfl, Nat.le_refl _, hk, Lib.hid rfl⟩
            case round =>
              obtain ⟨m, rfl, rfl, hkm, hms, HS⟩ := hrel
              have hkmz : (k : Int) ≤ (m : Int) := by omega
              have hmsz : (m : Int) ≤ (s.size : Int) := by omega
              obtain ⟨v, hv⟩ : ∃ v, clsAt s m = v := ⟨_, rfl⟩
              rw [hv]
              have HV := Lib.hid hv
              clear hv
              by_cases hw : v = 3 ∨ v = 4 ∨ v = 5
              · have hm : m < s.size := Nat.lt_of_not_le fun hge => by
                  have := HV.out; rw [clsAt_out hge] at this; omega
                have hmz : (m : Int) < (s.size : Int) := by omega
                have HE : Hid (span isWord s.data.toList (m + 1) = span isWord s.data.toList k) := Lib.hid (by
                  rw [← HS.out]
                  exact (span_yes (by rw [Array.length_toList]; exact hm) (by
                    show isWord s[m] = true
                    have := HV.out; rw [clsAt_in hm] at this
                    unfold isWord; rw [this]; rcases hw with rfl | rfl | rfl <;> rfl)).symm)
                rcases hw with rfl | rfl | rfl
                · gi_wp2_with fail
                  rw [show ((m : Int) + 1) = ((m + 1 : Nat) : Int) from rfl]
                  refine ⟨trivial, fun h => (by cases h), (HAT.out _ (m + 1) _ ((Below.refl _ wr).alloc (Nat.le_refl _) _)).mono ?_⟩
                  rintro e w' ⟨rfl, rfl⟩
                  gi_wp2
                  go_round
                  case rel => exact ⟨m + 1, rfl, rfl, by omega, by omega, HE⟩
                  case measure => simp [intOf]; omega
                · gi_wp2_with fail
                  rw [show ((m : Int) + 1) = ((m + 1 : Nat) : Int) from rfl]
                  refine ⟨trivial, fun h => (by cases h), (HAT.out _ (m + 1) _ ((Below.refl _ wr).alloc (Nat.le_refl _) _)).mono ?_⟩
                  rintro e w' ⟨rfl, rfl⟩
                  gi_wp2
                  go_round
                  case rel => exact ⟨m + 1, rfl, rfl, by omega, by omega, HE⟩
                  case measure => simp [intOf]; omega
                · gi_wp2_with fail
                  rw [show ((m : Int) + 1) = ((m + 1 : Nat) : Int) from rfl]
                  refine ⟨trivial, fun h => (by cases h), (HAT.out _ (m + 1) _ ((Below.refl _ wr).alloc (Nat.le_refl _) _)).mono ?_⟩
                  rintro e w' ⟨rfl, rfl⟩
                  gi_wp2
                  go_round
                  case rel => exact ⟨m + 1, rfl, rfl, by omega, by omega, HE⟩
                  case measure => simp [intOf]; omega
              · have HE : Hid (m = span isWord s.data.toList k) := Lib.hid (by
                  rw [← HS.out]
                  rcases Nat.lt_or_ge m s.size with hm | hm
                  · exact (span_no (by rw [Array.length_toList]; exact hm) (by
                      show isWord s[m] = false
                      have := HV.out; rw [clsAt_in hm] at this
                      unfold isWord; rw [this]; simp; omega)).symm
                  · exact (span_end _ _ _ (by rw [Array.length_toList]; exact hm)).symm)
                have e3 : ((v : Int) == 3) = false := beq_eq_false_iff_ne.2 (by omega)
                have e4 : ((v : Int) == 4) = false := beq_eq_false_iff_ne.2 (by omega)
                have e5 : ((v : Int) == 5) = false := beq_eq_false_iff_ne.2 (by omega)
                clear hw
                by_cases hlong : 24 < m - k
                · have hz : 24 < (m : Int) - (k : Int) := by omega
                  gi_wp2
                  gi_meet
                  case rel => exact ⟨⟨1, s[k] :: (s.data.toList.drop (k + 1)).takeWhile isWord, 0, k, 2⟩, m, rfl, rfl, rfl, Lib.hid (by rw [tok1_name H.out, if_pos (by have := HE.out; have := HW.out; omega)]), Lib.hid (by have := HE.out; have := HW.out; simp only [List.length_cons]; omega), Lib.hid (by have := H.out; omega), hkm, hms, heap_alloc_new _ _, (Below.refl _ _).alloc (Nat.le_refl _) _⟩
                · have hz : (m : Int) - (k : Int) ≤ 24 := by omega
                  gi_wp2
                  gi_meet
                  case rel => exact ⟨⟨1, s[k] :: (s.data.toList.drop (k + 1)).takeWhile isWord, 0, k, 0⟩, m, rfl, rfl, rfl, Lib.hid (by rw [tok1_name H.out, if_neg (by have := HE.out; have := HW.out; omega)]), Lib.hid (by have := HE.out; have := HW.out; simp only [List.length_cons]; omega), Lib.hid (by have := H.out; omega), hkm, hms, heap_alloc_new _ _, (Below.refl _ _).alloc (Nat.le_refl _) _⟩
          · rw [hca, h, show ((4 : Nat) : Int) = 4 from rfl]
            have H := Lib.hid h
            have HW := Lib.hid (word_span hlt (by unfold isDigit; rw [h]; rfl) (p := isDigit))
            clear h hca
            gi_wp2
            gi_loop [4] (fun i => ∃ m : Nat, i = .int .i64 m ∧ k ≤ m ∧ m ≤ s.size ∧ Hid (span isDigit s.data.toList m = span isDigit s.data.toList k)) (fun i => s.size - (intOf i).toNat)
            case atStart => exact ⟨k, rfl, Nat.le_refl _, hk, Lib.hid rfl⟩
            case round =>
              obtain ⟨m, rfl, hkm, hms, HS⟩ := hrel
              have hkmz : (k : Int) ≤ (m : Int) := by omega
              have hmsz : (m : Int) ≤ (s.size : Int) := by omega
              obtain ⟨v, hv⟩ : ∃ v, clsAt s m = v := ⟨_, rfl⟩
              have HV := Lib.hid hv
              clear hv
              gi_wp2_with fail
              refine ⟨trivial, fun h => (by cases h), (HAT.out _ m _ ((Below.refl _ wr).alloc (Nat.le_refl _) _)).mono ?_⟩
              rintro e w' ⟨rfl, rfl⟩
              rw [HV.out]
              by_cases hw : v = 4
              · have hm : m < s.size := Nat.lt_of_not_le fun hge => by
                  have := HV.out; rw [clsAt_out hge] at this; omega
                have hmz : (m : Int) < (s.size : Int) := by omega
                have HE : Hid (span isDigit s.data.toList (m + 1) = span isDigit s.data.toList k) := Lib.hid (by
                  rw [← HS.out]
                  exact (span_yes (by rw [Array.length_toList]; exact hm) (by
                    show isDigit s[m] = true
                    have := HV.out; rw [clsAt_in hm] at this
                    unfold isDigit; rw [this, hw]; rfl)).symm)
                have e4 : ((v : Int) == 4) = true := beq_iff_eq.2 (by omega)
                clear hw
                gi_wp2
                go_round
                case rel => exact ⟨m + 1, rfl, by omega, by omega, HE⟩
                case measure => simp [intOf]; omega
              · have HE : Hid (m = span isDigit s.data.toList k) := Lib.hid (by
                  rw [← HS.out]
                  rcases Nat.lt_or_ge m s.size with hm | hm
                  · exact (span_no (by rw [Array.length_toList]; exact hm) (by
                      show isDigit s[m] = false
                      have := HV.out; rw [clsAt_in hm] at this
                      unfold isDigit; rw [this]; simp; omega)).symm
                  · exact (span_end _ _ _ (by rw [Array.length_toList]; exact hm)).symm)
                have HN : Hid (m = k + 1 + ((s.data.toList.drop (k + 1)).takeWhile isDigit).length) := Lib.hid (HE.out.trans HW.out)
                have HH : Hid (headWord ((s.data.toList.drop (k + 1)).dropWhile isDigit) = (v == 3 || v == 5)) := Lib.hid (by
                  rw [dropWhile_eq_drop, List.drop_drop, ← HN.out, headWord_at, HV.out])
                have e4 : ((v : Int) == 4) = false := beq_eq_false_iff_ne.2 (by omega)
                clear hw
                gi_wp2_with fail
                refine ⟨trivial, fun h => (by cases h), (HAT.out _ m _ ((Below.refl _ wr).alloc (Nat.le_refl _) _)).mono ?_⟩
                rintro e w' ⟨rfl, rfl⟩
                rw [HV.out]
                by_cases hlong : 7 < m - k
                · have hz : 7 < (m : Int) - (k : Int) := by omega
                  gi_wp2
                  gi_meet
                  case rel => exact ⟨⟨2, s[k] :: (s.data.toList.drop (k + 1)).takeWhile isDigit, 0, k, 4⟩, m, rfl, rfl, rfl, Lib.hid (tok1_bad H.out (.inl (by have := HN.out; omega))).symm, Lib.hid (by have := HN.out; simp only [List.length_cons]; omega), Lib.hid (by have := H.out; omega), hkm, hms, heap_alloc_new _ _, (Below.refl _ _).alloc (Nat.le_refl _) _⟩
                · have hz : (m : Int) - (k : Int) ≤ 7 := by omega
                  by_cases h35 : v = 3 ∨ v = 5
                  · have HB := Lib.hid (tok1_bad (p := k) H.out (.inr (by rw [HH.out]; rcases h35 with rfl | rfl <;> rfl)))
                    rcases h35 with rfl | rfl
                    · gi_wp2
                      gi_meet
                      case rel => exact ⟨⟨2, s[k] :: (s.data.toList.drop (k + 1)).takeWhile isDigit, 0, k, 4⟩, m, rfl, rfl, rfl, Lib.hid HB.out.symm, Lib.hid (by have := HN.out; simp only [List.length_cons]; omega), Lib.hid (by have := H.out; omega), hkm, hms, heap_alloc_new _ _, (Below.refl _ _).alloc (Nat.le_refl _) _⟩
                    · gi_wp2
                      gi_meet
                      case rel => exact ⟨⟨2, s[k] :: (s.data.toList.drop (k + 1)).takeWhile isDigit, 0, k, 4⟩, m, rfl, rfl, rfl, Lib.hid HB.out.symm, Lib.hid (by have := HN.out; simp only [List.length_cons]; omega), Lib.hid (by have := H.out; omega), hkm, hms, heap_alloc_new _ _, (Below.refl _ _).alloc (Nat.le_refl _) _⟩
                  · have e3 : ((v : Int) == 3) = false := beq_eq_false_iff_ne.2 (by omega)
                    have e5 : ((v : Int) == 5) = false := beq_eq_false_iff_ne.2 (by omega)
                    have HT := Lib.hid (tok1_num (p := k) H.out (by rw [HH.out]; have := HN.out; simp only [Bool.or_eq_true, beq_iff_eq]; omega))
                    have HX := Lib.hid (extract_tok s k hlt ⟨2, s[k] :: (s.data.toList.drop (k + 1)).takeWhile isDigit, decVal (s[k] :: (s.data.toList.drop (k + 1)).takeWhile isDigit), k, 0⟩ m HT.out.symm (by have := HN.out; simp only [List.length_cons]; omega))
                    have HA := Lib.hid (atoi_below (s.extract k m) (decVal (s[k] :: (s.data.toList.drop (k + 1)).takeWhile isDigit)) (by rw [Lib.size_eq, Lib.extract_data, List.length_take]; omega)
                      (by rw [HX.out]; exact atoi_digits _ _ (fun x hx => by rcases List.mem_cons.1 hx with rfl | hx; exact H.out; exact takeWhile_digits _ x hx)))
                    obtain ⟨nv, hnv⟩ : ∃ nv, decVal (s[k] :: (s.data.toList.drop (k + 1)).takeWhile isDigit) = nv := ⟨_, rfl⟩
                    rw [hnv] at HA HT
                    clear h35 HX hnv
                    gi_wp2_with fail
                    refine ⟨trivial, fun h => (by cases h), (callsIn_wide.2 (HA.out _)).mono ?_⟩
                    rintro e W4 ⟨rfl, hb4⟩
                    have hf4 : W4.heap[wr.heap.size]? = some (.cells #[.int .i64 2, .string ⟨#[]⟩, .int .i64 0, .int .i64 k, .int .i64 0] 65 (0, 0)) := (hb4.block _ (by simp)).trans (heap_alloc_new _ _)
                    have c4 : W4.cell? ⟨wr.heap.size, 2, none⟩ = some (.int .i64 0) := by simp [World.cell?, hf4]
                    have z4 : W4.frozen? ⟨wr.heap.size, 2, none⟩ = false := by simp [World.frozen?, hf4]
                    have HF4 := Lib.hid hf4
                    have HB4 := Lib.hid hb4
                    clear hf4 hb4
                    gi_wp2
                    gi_meet
                    case rel => exact ⟨⟨2, s[k] :: (s.data.toList.drop (k + 1)).takeWhile isDigit, nv, k, 0⟩, m, rfl, rfl, rfl, Lib.hid HT.out.symm, Lib.hid (by have := HN.out; simp only [List.length_cons]; omega), Lib.hid (by have := H.out; omega), hkm, hms, heap_setCell_same _ _ 2 _ _ _ HF4.out, (((Below.refl _ _).alloc (Nat.le_refl _) _).trans (HB4.out.mono (by simp))).setCell (p := ⟨wr.heap.size, 2, none⟩) (Nat.le_refl _) _⟩
          · have HK := Lib.hid (hca.trans h)
            rw [hca, h]
            have H := Lib.hid h
            clear h hca
            gi_wp2_with fail
            refine ⟨trivial, fun h => (by cases h), (HAT.out _ k _ ((Below.refl _ wr).alloc (Nat.le_refl _) _)).mono ?_⟩
            rintro e w' ⟨rfl, rfl⟩
            rw [HK.out]
            gi_wp2
            gi_meet
            case rel => exact ⟨⟨3, [s[k]], 0, k, 0⟩, k + 1, rfl, rfl, rfl, Lib.hid (tok1_sym H.out).symm, Lib.hid rfl, Lib.hid (by have := H.out; omega), by omega, by omega, heap_alloc_new _ _, (Below.refl _ _).alloc (Nat.le_refl _) _⟩
          · have HK := Lib.hid (hca.trans h)
            rw [hca, h]
            have H := Lib.hid h
            clear h hca
            by_cases h1 : k + 1 < s.size
            · have h1z : (k : Int) + 1 < (s.size : Int) := by omega
              obtain ⟨v, hv⟩ : ∃ v : Nat, s[k + 1].toNat = v := ⟨_, rfl⟩
              by_cases h61 : v = 61
              · have HE : Hid (headEq (s.data.toList.drop (k + 1)) = true) := Lib.hid (by rw [drop_here h1]; show (s[k + 1] == 61) = true; rw [UInt8.toNat_inj.1 (show s[k + 1].toNat = (61 : UInt8).toNat by rw [hv, h61]; rfl)]; rfl)
                have e1 : ((v : Int) == 61) = true := by subst h61; rfl
                clear h61
                gi_wp2_with fail
                refine ⟨trivial, fun h => (by cases h), (HAT.out _ k _ ((Below.refl _ wr).alloc (Nat.le_refl _) _)).mono ?_⟩
                rintro e w' ⟨rfl, rfl⟩
                rw [HK.out]
                gi_wp2
                gi_meet
                case rel => exact ⟨⟨3, [s[k], 61], 0, k, 0⟩, k + 2, rfl, rfl, rfl, Lib.hid (tok1_two (.inl H.out) HE.out).symm, Lib.hid rfl, Lib.hid (by have := H.out; omega), by omega, by omega, heap_alloc_new _ _, (Below.refl _ _).alloc (Nat.le_refl _) _⟩
              · have HE : Hid (headEq (s.data.toList.drop (k + 1)) = false) := Lib.hid (by rw [drop_here h1]; show (s[k + 1] == 61) = false; rw [beq_eq_false_iff_ne]; intro h; rw [h] at hv; exact h61 hv.symm)
                have e1 : ((v : Int) == 61) = false := beq_eq_false_iff_ne.2 (by omega)
                clear h61
                gi_wp2_with fail
                refine ⟨trivial, fun h => (by cases h), (HAT.out _ k _ ((Below.refl _ wr).alloc (Nat.le_refl _) _)).mono ?_⟩
                rintro e w' ⟨rfl, rfl⟩
                rw [HK.out]
                gi_wp2
                gi_meet
                case rel => exact ⟨⟨3, [s[k]], 0, k, 0⟩, k + 1, rfl, rfl, rfl, Lib.hid (tok1_one H.out HE.out).symm, Lib.hid rfl, Lib.hid (by have := H.out; omega), by omega, by omega, heap_alloc_new _ _, (Below.refl _ _).alloc (Nat.le_refl _) _⟩
            · have h1z : (s.size : Int) ≤ (k : Int) + 1 := by omega
              have HE : Hid (headEq (s.data.toList.drop (k + 1)) = false) := Lib.hid (by rw [List.drop_eq_nil_of_le (by rw [Array.length_toList]; exact Nat.le_of_not_lt h1)]; rfl)
              gi_wp2_with fail
              refine ⟨trivial, fun h => (by cases h), (HAT.out _ k _ ((Below.refl _ wr).alloc (Nat.le_refl _) _)).mono ?_⟩
              rintro e w' ⟨rfl, rfl⟩
              rw [HK.out]
              gi_wp2
              gi_meet
              case rel => exact ⟨⟨3, [s[k]], 0, k, 0⟩, k + 1, rfl, rfl, rfl, Lib.hid (tok1_one H.out HE.out).symm, Lib.hid rfl, Lib.hid (by have := H.out; omega), by omega, by omega, heap_alloc_new _ _, (Below.refl _ _).alloc (Nat.le_refl _) _⟩
          · have HK := Lib.hid (hca.trans h)
            rw [hca, h]
            have H := Lib.hid h
            clear h hca
            by_cases h1 : k + 1 < s.size
            · have h1z : (k : Int) + 1 < (s.size : Int) := by omega
              obtain ⟨v, hv⟩ : ∃ v : Nat, s[k + 1].toNat = v := ⟨_, rfl⟩
              by_cases h61 : v = 61
              · have HE : Hid (headEq (s.data.toList.drop (k + 1)) = true) := Lib.hid (by rw [drop_here h1]; show (s[k + 1] == 61) = true; rw [UInt8.toNat_inj.1 (show s[k + 1].toNat = (61 : UInt8).toNat by rw [hv, h61]; rfl)]; rfl)
                have e1 : ((v : Int) == 61) = true := by subst h61; rfl
                clear h61
                gi_wp2_with fail
                refine ⟨trivial, fun h => (by cases h), (HAT.out _ k _ ((Below.refl _ wr).alloc (Nat.le_refl _) _)).mono ?_⟩
                rintro e w' ⟨rfl, rfl⟩
                rw [HK.out]
                gi_wp2
                gi_meet
                case rel => exact ⟨⟨3, [s[k], 61], 0, k, 0⟩, k + 2, rfl, rfl, rfl, Lib.hid (tok1_two (.inr H.out) HE.out).symm, Lib.hid rfl, Lib.hid (by have := H.out; omega), by omega, by omega, heap_alloc_new _ _, (Below.refl _ _).alloc (Nat.le_refl _) _⟩
              · have HE : Hid (headEq (s.data.toList.drop (k + 1)) = false) := Lib.hid (by rw [drop_here h1]; show (s[k + 1] == 61) = false; rw [beq_eq_false_iff_ne]; intro h; rw [h] at hv; exact h61 hv.symm)
                have e1 : ((v : Int) == 61) = false := beq_eq_false_iff_ne.2 (by omega)
                clear h61
                gi_wp2_with fail
                refine ⟨trivial, fun h => (by cases h), (HAT.out _ k _ ((Below.refl _ wr).alloc (Nat.le_refl _) _)).mono ?_⟩
                rintro e w' ⟨rfl, rfl⟩
                rw [HK.out]
                gi_wp2
                gi_meet
                case rel => exact ⟨⟨3, [s[k]], 0, k, 3⟩, k + 1, rfl, rfl, rfl, Lib.hid (tok1_bang H.out HE.out).symm, Lib.hid rfl, Lib.hid (by have := H.out; omega), by omega, by omega, heap_alloc_new _ _, (Below.refl _ _).alloc (Nat.le_refl _) _⟩
            · have h1z : (s.size : Int) ≤ (k : Int) + 1 := by omega
              have HE : Hid (headEq (s.data.toList.drop (k + 1)) = false) := Lib.hid (by rw [List.drop_eq_nil_of_le (by rw [Array.length_toList]; exact Nat.le_of_not_lt h1)]; rfl)
              gi_wp2_with fail
              refine ⟨trivial, fun h => (by cases h), (HAT.out _ k _ ((Below.refl _ wr).alloc (Nat.le_refl _) _)).mono ?_⟩
              rintro e w' ⟨rfl, rfl⟩
              rw [HK.out]
              gi_wp2
              gi_meet
              case rel => exact ⟨⟨3, [s[k]], 0, k, 3⟩, k + 1, rfl, rfl, rfl, Lib.hid (tok1_bang H.out HE.out).symm, Lib.hid rfl, Lib.hid (by have := H.out; omega), by omega, by omega, heap_alloc_new _ _, (Below.refl _ _).alloc (Nat.le_refl _) _⟩
          · rcases h with h | h
            · rw [hca, h]
              have H := Lib.hid h
              clear h hca
              gi_wp2
              gi_meet
              case rel => exact ⟨⟨0, [], 0, k, 3⟩, k, rfl, rfl, rfl, Lib.hid (tok1_other (.inl H.out)).symm, Lib.hid rfl, Lib.hid (by have := H.out; omega), Nat.le_refl _, hk, heap_alloc_new _ _, (Below.refl _ _).alloc (Nat.le_refl _) _⟩
            · rw [hca, h]
              have H := Lib.hid h
              clear h hca
              gi_wp2
              gi_meet
              case rel => exact ⟨⟨0, [], 0, k, 3⟩, k, rfl, rfl, rfl, Lib.hid (tok1_other (.inr H.out)).symm, Lib.hid rfl, Lib.hid (by have := H.out; omega), Nat.le_refl _, hk, heap_alloc_new _ _, (Below.refl _ _).alloc (Nat.le_refl _) _⟩
      · have hltz : (s.size : Int) ≤ (k : Int) := by omega
        have hF : all s = pre := by
          have h := HF.out
          rw [List.drop_eq_nil_of_le (by rw [Array.length_toList]; exact Nat.le_of_not_lt hlt)] at h
          rw [h]; simp [lexL]
        gi_wp2
        simp only [Exit.noGoto_normal]
        go_end0
        exact ⟨⟨_, rfl⟩, .inl ⟨pre, hF.symm, hJ⟩⟩
end Go.Proofs.YtbmmedoopjjbkaaDoor.Lex
