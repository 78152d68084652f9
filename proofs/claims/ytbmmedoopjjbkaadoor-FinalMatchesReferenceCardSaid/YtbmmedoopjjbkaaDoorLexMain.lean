/- The contract of Lex: what the plain function answers. -/
import Derived.Test.YtbmmedoopjjbkaaDoorLexIter
import Derived.RangeFuncBox
import Derived.Deep.QuietTactic
namespace Go.Proofs.YtbmmedoopjjbkaaDoor.Lex
open Go.RowKit Go.Shelf
set_option linter.unusedVariables false
attribute [local go_sem] Oper.semAt_some

theorem iter_stops (n : Nat) (B C : Nat) (s : ByteArray) (hs : s.size ≤ 20000) (w : World)
    (hB : w.heap[B]? = some (.cells #[.string s] 9 (0, 0))) (hC : w.heap[C]? = some (.cells tblF 66 (0, 0)))
    (hD : w.heap[C + 1]? = some (.cells #[.func (.func 33) #[] #[.pointer (some ⟨B, 0, none⟩), .pointer (some ⟨C, 0, none⟩)]] 68 (0, 0))) :
    SeqStopsK Fence.wide n Tryd.prog 34 #[.pointer (some ⟨B, 0, none⟩), .pointer (some ⟨C + 1, 0, none⟩)] enc KF (fun ys => ys = all s) (fun pre => pre <+: all s) (all s).length w :=
  fun l J Jx W hW hJ _ hY h0 => iter_in n l B C s hs J Jx W hJ hY
    ((hW.block B (Array.getElem?_eq_some_iff.1 hB).1).trans hB) ((hW.block C (Array.getElem?_eq_some_iff.1 hC).1).trans hC) ((hW.block (C + 1) (Array.getElem?_eq_some_iff.1 hD).1).trans hD) h0

theorem KF_b {w : World} (W : World) (l : Nat) (o o' : Obj) (_ : w.heap.size ≤ l) (h : W.heap[l]? = some o) (hc : o.isCells = false) (_ : o.isWalk = false) : KF W (W.putObj l o') :=
  ⟨by simp, fun q cs t _ hq => by
    rcases Nat.decEq q l with hne | rfl
    · exact (World.putObj_heap_other hne).trans hq
    · rw [h] at hq; cases hq; cases hc⟩
theorem KF_set {W : World} {B : Nat} {t : TypeId} {v : Value} (h : Boxed W B t v) (ht : t ≠ 9 ∧ t ≠ 66 ∧ t ≠ 68 ∧ t ≠ 65) (u : Value) : KF W (W.setCell ⟨B, 0, none⟩ u) :=
  ⟨by simp, fun q cs t' ht' hq => by
    refine (Below.heap_setCell W ⟨B, 0, none⟩ u q (fun e => ?_)).trans hq
    subst e
    rw [show W.heap[q]? = _ from h] at hq
    cases hq
    rcases ht' with rfl | rfl | rfl | rfl
    · exact ht.1 rfl
    · exact ht.2.1 rfl
    · exact ht.2.2.1 rfl
    · exact ht.2.2.2 rfl⟩
theorem KF_grown {W W' : World} {n₀ : Nat} {v : Value} {k : Nat} {xs : List Value} (hr : W.ownsRow n₀ 60 4 v k xs) (hg : W.grownBy W' v.ownBlock) : KF W W' :=
  ⟨hg.size, fun q cs t ht hq => by
    refine (hg.block q (Array.getElem?_eq_some_iff.1 hq).1 (fun e => ?_)).trans hq
    rcases hr.2 with ⟨rfl, _⟩ | ⟨g, cap, cur, rfl, _, hgb, _⟩
    · simp [Value.ownBlock] at e
    · obtain rfl : q = g := by simpa [Value.ownBlock] using e
      rw [hq] at hgb
      cases hgb
      rcases ht with h | h | h | h <;> exact absurd h (by decide)⟩

/-- A token's cells, as a slice holds them. -/
def cells (x : Fd) : List Value := [.int .i64 x.kind, .string ⟨x.text.toArray⟩, .int .i64 x.n, .int .i64 (x.pos : Int)]
def toks (l : List Fd) : List Value := l.flatMap cells
theorem toks_len (l : List Fd) : (toks l).length = l.length * 4 := by
  induction l with
  | nil => rfl
  | cons x l ih => simp only [toks, List.flatMap_cons, List.length_append, List.length_cons] at ih ⊢; rw [ih]; simp [cells]; omega
theorem toks_snoc (l : List Fd) (x : Fd) : toks (l ++ [x]) = toks l ++ cells x := by simp [toks]
theorem info_tok : (Tryd.prog.info? 60).map (fun i => (i.zero, i.size, i.bytes)) = some (some (.agg #[.int .i64 0, .string ⟨#[]⟩, .int .i64 0, .int .i64 0]), 4, 40) := by kernel_rfl

theorem own_slice {W : World} {base : Nat} {e : TypeId} {size : Nat} {v : Value} {k : Nat} {xs : List Value} (h : W.ownsRow base e size v k xs) : ∃ A c, v = .slice A k c := by
  rcases h.2 with ⟨rfl, rfl⟩ | ⟨g, cap, _, rfl, _⟩
  · exact ⟨_, _, rfl⟩
  · exact ⟨_, _, rfl⟩
theorem cells_new (W : World) (x : Fd) (t : TypeId) : ∀ j u, (cells x)[j]? = some u → (W.alloc (.cells #[.int .i64 x.kind, .string ⟨x.text.toArray⟩, .int .i64 x.n, .int .i64 (x.pos : Int)] t)).cell? ((⟨W.heap.size, 0, none⟩ : Addr).add j) = some u := by
  intro j u h
  have e := heap_alloc_new W (.cells #[.int .i64 x.kind, .string ⟨x.text.toArray⟩, .int .i64 x.n, .int .i64 (x.pos : Int)] t)
  have ha : (⟨W.heap.size, 0, none⟩ : Addr).add j = ⟨W.heap.size, j, none⟩ := by unfold Addr.add; split <;> simp_all
  rw [ha]
  simp only [World.cell?, e]
  simpa [cells] using h
theorem cells_one (x : Fd) : ∀ u ∈ cells x, u.oneCell' = true := by
  intro u hu
  simp only [cells, List.mem_cons, List.not_mem_nil, or_false] at hu
  rcases hu with rfl | rfl | rfl | rfl <;> rfl
theorem ret_close {B : Nat} {w W : World} {e0 p0 : Int} (b0 : Boxed W w.heap.size 56 (.slice none 0 0)) (b1 : Boxed W (w.heap.size + 1) 29 (.int .i64 e0)) (b2 : Boxed W (w.heap.size + 1 + 1) 3 (.int .i64 p0)) (hB : Below w.heap.size w W) (e p : Int) :
    KeepsFrom B W (((W.setCell ⟨w.heap.size, 0, none⟩ (.slice none 0 0)).setCell ⟨w.heap.size + 1, 0, none⟩ (.int .i64 e)).setCell ⟨w.heap.size + 1 + 1, 0, none⟩ (.int .i64 p)).drew ∧
    (Boxed (((W.setCell ⟨w.heap.size, 0, none⟩ (.slice none 0 0)).setCell ⟨w.heap.size + 1, 0, none⟩ (.int .i64 e)).setCell ⟨w.heap.size + 1 + 1, 0, none⟩ (.int .i64 p)).drew w.heap.size 56 (.slice none 0 0) ∧
     Boxed (((W.setCell ⟨w.heap.size, 0, none⟩ (.slice none 0 0)).setCell ⟨w.heap.size + 1, 0, none⟩ (.int .i64 e)).setCell ⟨w.heap.size + 1 + 1, 0, none⟩ (.int .i64 p)).drew (w.heap.size + 1) 29 (.int .i64 e) ∧
     Boxed (((W.setCell ⟨w.heap.size, 0, none⟩ (.slice none 0 0)).setCell ⟨w.heap.size + 1, 0, none⟩ (.int .i64 e)).setCell ⟨w.heap.size + 1 + 1, 0, none⟩ (.int .i64 p)).drew (w.heap.size + 1 + 1) 3 (.int .i64 p)) ∧
    Below w.heap.size w (((W.setCell ⟨w.heap.size, 0, none⟩ (.slice none 0 0)).setCell ⟨w.heap.size + 1, 0, none⟩ (.int .i64 e)).setCell ⟨w.heap.size + 1 + 1, 0, none⟩ (.int .i64 p)).drew := by
  refine ⟨((((KeepsOthers.setCell _ _ _).trans (KeepsOthers.setCell _ _ _)).trans (KeepsOthers.setCell _ _ _)).trans (KeepsOthers.drew _)).from _, ⟨?_, ?_, ?_⟩, ?_⟩
  · exact ((b0.set _).other (by omega) _).other (by omega) _
  · exact (((b1.other (by omega) _).set _).other (by omega) _)
  · exact (((b2.other (by omega) _).other (by omega) _).set _)
  · exact (((hB.setCell (p := ⟨w.heap.size, 0, none⟩) (Nat.le_refl _) _).setCell (p := ⟨w.heap.size + 1, 0, none⟩) (by simp) _).setCell (p := ⟨w.heap.size + 1 + 1, 0, none⟩) (by simp; omega) _).drew
theorem done_close {w W : World} {D n : Nat} {A : Option Addr} {c : Nat} {xs : List Value} {e0 p0 : Int} (b0 : Boxed W w.heap.size 56 (.slice none 0 0)) (b1 : Boxed W (w.heap.size + 1) 29 (.int .i64 e0)) (b2 : Boxed W (w.heap.size + 1 + 1) 3 (.int .i64 p0)) (hB : Below w.heap.size w W)
    (hrow : W.ownsRow w.heap.size 60 4 (.slice A n c) n xs) (hK : W.heap[D]? = some (.deferred (some []))) :
    Boxed (((W.setCell ⟨w.heap.size, 0, none⟩ (.slice A n c)).setCell ⟨w.heap.size + 1, 0, none⟩ (.int .i64 0)).setCell ⟨w.heap.size + 1 + 1, 0, none⟩ (.int .i64 0)) w.heap.size 56 (.slice A n c) ∧
    Boxed (((W.setCell ⟨w.heap.size, 0, none⟩ (.slice A n c)).setCell ⟨w.heap.size + 1, 0, none⟩ (.int .i64 0)).setCell ⟨w.heap.size + 1 + 1, 0, none⟩ (.int .i64 0)) (w.heap.size + 1) 29 (.int .i64 0) ∧
    Boxed (((W.setCell ⟨w.heap.size, 0, none⟩ (.slice A n c)).setCell ⟨w.heap.size + 1, 0, none⟩ (.int .i64 0)).setCell ⟨w.heap.size + 1 + 1, 0, none⟩ (.int .i64 0)) (w.heap.size + 1 + 1) 3 (.int .i64 0) ∧
    (((W.setCell ⟨w.heap.size, 0, none⟩ (.slice A n c)).setCell ⟨w.heap.size + 1, 0, none⟩ (.int .i64 0)).setCell ⟨w.heap.size + 1 + 1, 0, none⟩ (.int .i64 0)).ownsRow w.heap.size 60 4 (.slice A n c) n xs ∧
    Below w.heap.size w (((W.setCell ⟨w.heap.size, 0, none⟩ (.slice A n c)).setCell ⟨w.heap.size + 1, 0, none⟩ (.int .i64 0)).setCell ⟨w.heap.size + 1 + 1, 0, none⟩ (.int .i64 0)) ∧
    (((W.setCell ⟨w.heap.size, 0, none⟩ (.slice A n c)).setCell ⟨w.heap.size + 1, 0, none⟩ (.int .i64 0)).setCell ⟨w.heap.size + 1 + 1, 0, none⟩ (.int .i64 0)).heap[D]? = some (.deferred (some [])) := by
  have r1 := hrow.kept (grownBy_setCell' W w.heap.size (.slice A n c)) (.inr (b0.not_row (by decide) hrow).symm)
  have c1 := b1.other (B' := w.heap.size) (by omega) (.slice A n c)
  have r2 := r1.kept (grownBy_setCell' _ (w.heap.size + 1) (.int .i64 0)) (.inr (c1.not_row (by decide) r1).symm)
  have c2 := (b2.other (B' := w.heap.size) (by omega) (.slice A n c)).other (B' := w.heap.size + 1) (by omega) (.int .i64 0)
  have r3 := r2.kept (grownBy_setCell' _ (w.heap.size + 1 + 1) (.int .i64 0)) (.inr (c2.not_row (by decide) r2).symm)
  exact ⟨((b0.set _).other (by omega) _).other (by omega) _, (c1.set _).other (by omega) _, c2.set _, r3,
    ((hB.setCell (p := ⟨w.heap.size, 0, none⟩) (Nat.le_refl _) _).setCell (p := ⟨w.heap.size + 1, 0, none⟩) (by simp) _).setCell (p := ⟨w.heap.size + 1 + 1, 0, none⟩) (by simp; omega) _,
    (((KeepsOthers.setCell _ _ _).trans (KeepsOthers.setCell _ _ _)).trans (KeepsOthers.setCell _ _ _)).same D _ hK rfl⟩
/-- How the loop's body leaves: with an error, or at too many tokens. -/
def Stop (pre : List Fd) (e p : Int) : Prop := ∃ (q : List Fd) (x : Fd), pre = q ++ [x] ∧ (∀ f ∈ q, f.err = 0) ∧ q.length ≤ 5000 ∧ ((x.err ≠ 0 ∧ e = x.err) ∨ (x.err = 0 ∧ q.length = 5000 ∧ e = 2)) ∧ p = (x.pos : Int)
theorem run_ok : ∀ (xs out rest : List Fd), (∀ f ∈ xs, f.err = 0) → out.length + xs.length ≤ 5000 → run out (xs ++ rest) = run (out ++ xs) rest
  | [], out, rest, _, _ => by simp
  | x :: xs, out, rest, h, hl => by
    have hx : x.err = 0 := h x List.mem_cons_self
    simp only [List.length_cons] at hl
    rw [List.cons_append, run, if_neg (by simp [hx]), if_neg (by omega), run_ok xs (out ++ [x]) rest (fun f hf => h f (List.mem_cons_of_mem _ hf)) (by simp; omega), List.append_assoc]
    rfl
theorem run_done (xs : List Fd) (h : ∀ f ∈ xs, f.err = 0) (hl : xs.length ≤ 5000) : run [] xs = (xs, 0, 0) := by
  have := run_ok xs [] [] h (by simpa using hl)
  rw [List.append_nil] at this
  rw [this]; rfl
theorem run_stop {pre all : List Fd} {e p : Int} (h : Stop pre e p) (hp : pre <+: all) : run [] all = ([], e, p) := by
  obtain ⟨q, x, rfl, hq, hl, he, rfl⟩ := h
  obtain ⟨r, rfl⟩ := hp
  rw [List.append_assoc, run_ok q [] ([x] ++ r) hq (by simpa using hl), List.nil_append, List.singleton_append, run]
  rcases he with ⟨hx, rfl⟩ | ⟨hx, hl5, rfl⟩
  · rw [if_pos hx]
  · rw [if_neg (by simp [hx]), if_pos hl5]
theorem lex_of (s : ByteArray) (hs : s.size ≤ 20000) : lex s.data.toList = run [] (all s) := by
  rw [lex, if_neg (by rw [Array.length_toList]; exact Nat.not_lt.2 hs)]
  rfl

def OK (pre : List Fd) : Prop := (∀ f ∈ pre, f.err = 0) ∧ pre.length ≤ 5000

set_option maxRecDepth 100000 in
set_option maxHeartbeats 4000000 in
theorem lex_calls (s : ByteArray) (w : World) :
    Calls Tryd.prog 29 #[.string s] w fun e w' => ∃ v, e = .returned (.tuple #[v, .int .i64 (lex s.data.toList).2.1, .int .i64 (lex s.data.toList).2.2]) ∧
      w'.ownsRow w.heap.size 60 4 v (lex s.data.toList).1.length (toks (lex s.data.toList).1) ∧ Below w.heap.size w w' := by
  obtain ⟨i0, hi, hz0, hz1, hz2⟩ := info_parts info_tok
  refine (callsIn_wide (n := 9)).1 ?_
  refine callsIn_of_wp_marks Tryd.func29 rfl trivial ?_ rfl
  simp only [Tryd.ntmps29, List.size_toArray, List.length_cons, List.length_nil, Nat.reduceAdd, Nat.reduceSub, Array.replicate_succ, Array.replicate_zero, List.push_toArray, List.append_toArray, List.nil_append, List.cons_append]
  by_cases hs : s.size ≤ 20000
  · have hsz : (s.size : Int) ≤ 20000 := by omega
    have hsd : decide (20000 < (s.size : Int)) = false := decide_eq_false (by omega)
    gi_wp2_with fail
    refine ⟨trivial, (callsIn_wide.2 (tokens_calls s _)).mono ?_⟩
    rintro e W0 ⟨C, hC1, hC2, rfl, eB, eC, eD, hbT⟩
    gi_wp2
    simp only [World.size_alloc] at hC1 eB eD hbT ⊢
    have hB0 := hbT.size
    simp only [World.size_alloc] at hB0
    have r0 : Boxed W0 w.heap.size 56 (.slice none 0 0) := (hbT.block _ (by omega)).trans (((Boxed.new w 56 (.slice none 0 0)).alloc _).alloc _ |>.alloc _)
    have r1 : Boxed W0 (w.heap.size + 1) 29 (.int .i64 0) := by
      have h := ((Boxed.new (w.alloc (.cells #[.slice none 0 0] 56)) 29 (.int .i64 0)).alloc (.cells #[.int .i64 0] 3)).alloc (.cells #[.slice none 0 0] 56)
      rw [World.size_alloc] at h
      exact (hbT.block _ (by omega)).trans h
    have r2 : Boxed W0 (w.heap.size + 1 + 1) 3 (.int .i64 0) := by
      have h := (Boxed.new ((w.alloc (.cells #[.slice none 0 0] 56)).alloc (.cells #[.int .i64 0] 29)) 3 (.int .i64 0)).alloc (.cells #[.slice none 0 0] 56)
      rw [World.size_alloc, World.size_alloc] at h
      exact (hbT.block _ (by omega)).trans h
    have r3 : Boxed W0 (w.heap.size + 1 + 1 + 1) 56 (.slice none 0 0) := by
      have h := Boxed.new (((w.alloc (.cells #[.slice none 0 0] 56)).alloc (.cells #[.int .i64 0] 29)).alloc (.cells #[.int .i64 0] 3)) 56 (.slice none 0 0)
      rw [World.size_alloc, World.size_alloc, World.size_alloc] at h
      exact (hbT.block _ (by omega)).trans h
    have hBw : Below w.heap.size w W0 := ((((((Below.refl _ w).alloc (Nat.le_refl _) _).alloc (by simp) _).alloc (by simp; omega) _).alloc (by simp; omega) _)).trans (hbT.mono (by omega))
    have hI : OwnFrom W0.heap.size (fun (pre : List Fd) (W : World) => (OK pre ∧ (Boxed W w.heap.size 56 (.slice none 0 0) ∧ Boxed W (w.heap.size + 1) 29 (.int .i64 0) ∧ Boxed W (w.heap.size + 1 + 1) 3 (.int .i64 0))) ∧
        (∃ v, Boxed W (w.heap.size + 1 + 1 + 1) 56 v ∧ W.ownsRow w.heap.size 60 4 v pre.length (toks pre) ∧ True) ∧ Below w.heap.size w W) :=
      OwnFrom.and (OwnFrom.and (ownFrom_pure _ _) (OwnFrom.and (Own.from (boxed_own _ _ _) _) (OwnFrom.and (Own.from (boxed_own _ _ _) _) (Own.from (boxed_own _ _ _) _))))
        (OwnFrom.and (Own.from (holdsRow_own w.heap.size _ _ _ 4 (fun pre => pre.length) toks (fun _ _ => True)) _) (ownFrom_below (Nat.le_refl _) (by omega)))
    have hIx : OwnFrom W0.heap.size (fun (z : Code × List Fd) (W : World) => ∃ e p : Int, (z.1 = .ret ∧ Stop z.2 e p) ∧ (Boxed W w.heap.size 56 (.slice none 0 0) ∧ Boxed W (w.heap.size + 1) 29 (.int .i64 e) ∧ Boxed W (w.heap.size + 1 + 1) 3 (.int .i64 p)) ∧ Below w.heap.size w W) := by
      rintro z A B row ⟨e, p, h1, h2, h3⟩ hg hr
      exact ⟨e, p, h1, (OwnFrom.and (Own.from (boxed_own _ _ (fun _ => _)) _) (OwnFrom.and (Own.from (boxed_own _ _ (fun _ => _)) _) (Own.from (boxed_own _ _ (fun _ => _)) _))) () A B row h2 hg hr, ownFrom_below (β := Unit) (Nat.le_refl _) (by omega) () A B row h3 hg hr⟩
    refine wpIn_rangeFunc_ownH rfl (by omega) (gf := 34) (lb := #[.pointer (some ⟨w.heap.size + 1 + 1 + 1 + 1, 0, none⟩), .pointer (some ⟨C + 1, 0, none⟩)]) rfl trivial (enters_of Tryd.func34 (by kernel_rfl) rfl)
      (iter_stops 8 (w.heap.size + 1 + 1 + 1 + 1) C s hs W0 eB eC eD) KF.trans KF_b (Below.refl _ _) (fun _ => rfl)
      (fun (pre : List Fd) (W : World) => (OK pre ∧ (Boxed W w.heap.size 56 (.slice none 0 0) ∧ Boxed W (w.heap.size + 1) 29 (.int .i64 0) ∧ Boxed W (w.heap.size + 1 + 1) 3 (.int .i64 0))) ∧
        (∃ v, Boxed W (w.heap.size + 1 + 1 + 1) 56 v ∧ W.ownsRow w.heap.size 60 4 v pre.length (toks pre) ∧ True) ∧ Below w.heap.size w W)
      (fun c pre W => ∃ e p : Int, (c = .ret ∧ Stop pre e p) ∧ (Boxed W w.heap.size 56 (.slice none 0 0) ∧ Boxed W (w.heap.size + 1) 29 (.int .i64 e) ∧ Boxed W (w.heap.size + 1 + 1) 3 (.int .i64 p)) ∧ Below w.heap.size w W)
      hI (fun c s A B row h => hIx (c, s) A B row h)
      ⟨⟨⟨by simp, by simp⟩, r0, r1, r2⟩, ⟨_, r3, World.ownsRow_nil _ _ _ _, trivial⟩, hBw⟩
      (fun x a' W => ∃ Bx, w.heap.size + 1 + 1 + 1 < Bx ∧ W.heap[Bx]? = some (.cells #[.int .i64 x.kind, .string ⟨x.text.toArray⟩, .int .i64 x.n, .int .i64 (x.pos : Int), .int .i64 x.err] 65 (0, 0)) ∧ a' = { tmps := #[.string s, undef, .pointer (some ⟨w.heap.size, 0, none⟩), .pointer (some ⟨w.heap.size + 1, 0, none⟩), .pointer (some ⟨w.heap.size + 1 + 1, 0, none⟩), .pointer (some ⟨w.heap.size + 1 + 1 + 1, 0, none⟩), .pointer (some ⟨Bx, 0, none⟩), .string s, .int .i64 s.size, .bool false, .string s, .func (.func 34) #[] #[.pointer (some ⟨w.heap.size + 1 + 1 + 1 + 1, 0, none⟩), .pointer (some ⟨C + 1, 0, none⟩)], .agg #[.int .i64 x.kind, .string ⟨x.text.toArray⟩, .int .i64 x.n, .int .i64 (x.pos : Int), .int .i64 x.err], undef, undef, undef, undef, undef, undef, undef, undef, undef, undef, undef, undef, undef, undef, undef, undef, undef, undef, undef, undef, undef, undef], defers := [] })
      (fun x a' _ A B row hs hg hr => by
        obtain ⟨Bx, e1, e2, e3⟩ := hs
        refine ⟨Bx, e1, (hg.block Bx (Array.getElem?_eq_some_iff.1 e2).1 (fun e => ?_)).trans e2, e3⟩
        obtain ⟨_, o, ho, hc⟩ := hr Bx e.symm
        rw [e2] at ho; cases ho; cases hc)
      ?assign ?body ?done ?stop
    case assign =>
      rintro l pre x W K hi hK
      have hsz := hi.2.2.size
      simp only [enc]
      gi_wp2
      exact hK _ _ ((KeepsOthers.alloc _ _).from _) (KF.of_below ((Below.refl _ W).alloc (Nat.le_refl _) _)) (hI.alloc _ hi) ⟨W.heap.size, by have := hi.2.1; obtain ⟨v, hv, _⟩ := this; exact hv.lt, heap_alloc_new _ _, rfl⟩
    case body =>
      rintro l pre x a' W hl ⟨r, hr⟩ ⟨⟨⟨hok, hlen⟩, b0, b1, b2⟩, ⟨v, bO, hrow, _⟩, hB⟩ ⟨Bx, hBx, bX, rfl⟩ hlt
      have x0 : W.cell? ⟨Bx, 0, none⟩ = some (.int .i64 x.kind) := by simp [World.cell?, bX]
      have x1 : W.cell? ⟨Bx, 1, none⟩ = some (.string ⟨x.text.toArray⟩) := by simp [World.cell?, bX]
      have x2 : W.cell? ⟨Bx, 2, none⟩ = some (.int .i64 x.n) := by simp [World.cell?, bX]
      have x3 : W.cell? ⟨Bx, 3, none⟩ = some (.int .i64 (x.pos : Int)) := by simp [World.cell?, bX]
      have x4 : W.cell? ⟨Bx, 4, none⟩ = some (.int .i64 x.err) := by simp [World.cell?, bX]
      have hc := bO.cell
      obtain ⟨A, c, hv⟩ := own_slice hrow
      rw [hv] at hc bO hrow
      clear hv
      by_cases he : x.err = 0
      · have e1 : (x.err != 0) = false := by rw [he]; rfl
        have HE := Lib.hid he
        clear he
        by_cases h5 : pre.length = 5000
        · have e2 : ((pre.length : Int) == 5000) = true := beq_iff_eq.2 (by omega)
          have H5 := Lib.hid h5
          clear h5
          have c0 := b0.cell
          have c1 := b1.cell
          have c2 := b2.cell
          have f0 := b0.frozen
          have f1 := b1.frozen
          have f2 := b2.frozen
          gi_wp2
          have HC := Lib.hid (ret_close (B := W0.heap.size) b0 b1 b2 hB 2 (x.pos : Int))
          have HS : Hid (Stop (pre ++ [x]) 2 (x.pos : Int)) := Lib.hid ⟨pre, x, rfl, hok, hlen, .inr ⟨HE.out, H5.out, rfl⟩, rfl⟩
          clear hok hlen hrow
          gi_region
          all_goals (gi_wp2; exact ⟨HC.out.1, 2, (x.pos : Int), ⟨rfl, HS.out⟩, HC.out.2⟩)
        · have e2 : ((pre.length : Int) == 5000) = false := beq_eq_false_iff_ne.2 (by omega)
          have H5 := Lib.hid h5
          clear h5
          have hmx : pre.length + 1 ≤ maxLen := by unfold maxLen; omega
          have hmb : (pre.length + 1) * 40 ≤ 140737488355328 := by omega
          have hbs : w.heap.size ≤ W.heap.size := hB.size
          gi_wp2_with (gi_at_builtin; refine wpListIn_append_own _ rfl _ _ 56 rfl w.heap.size 60 i0 (.agg #[.int .i64 0, .string ⟨#[]⟩, .int .i64 0, .int .i64 0]) 4 40 Tryd.underlying56 hi hz0 hz1 hz2 rfl (by decide) _ _ _ rfl (hrow.alloc _) ⟨W.heap.size, 0, none⟩ 1 1 (cells x) rfl rfl (cells_new _ _ _) (cells_one x) hmx hmb (by simp; omega) ?_; intro v' w1 hown' hgrow _; obtain ⟨g', cap', rfl⟩ := ownsRow_succ hown'; obtain ⟨hv1, hv2, hr2, hk2, hb2⟩ := bO.appended (by decide) hrow hB.size (by omega) hown' hgrow; have hc1 := hv1.cell; have hf1 := hv1.frozen)
          have q0 := (b0.alloc (.cells #[.int .i64 x.kind, .string ⟨x.text.toArray⟩, .int .i64 x.n, .int .i64 (x.pos : Int)] 60)).kept hgrow (b0.not_row (by decide) hrow)
          have q1 := (b1.alloc (.cells #[.int .i64 x.kind, .string ⟨x.text.toArray⟩, .int .i64 x.n, .int .i64 (x.pos : Int)] 60)).kept hgrow (b1.not_row (by decide) hrow)
          have q2 := (b2.alloc (.cells #[.int .i64 x.kind, .string ⟨x.text.toArray⟩, .int .i64 x.n, .int .i64 (x.pos : Int)] 60)).kept hgrow (b2.not_row (by decide) hrow)
          refine ⟨hk2.from _, ((KF.of_below ((Below.refl _ W).alloc (Nat.le_refl _) _)).trans (KF_grown (hrow.alloc _) hgrow)).trans (KF_set hv1 (by decide) _), ⟨⟨⟨fun f hf => ?_, ?_⟩, q0.other (by omega) _, q1.other (by omega) _, q2.other (by omega) _⟩, ⟨_, hv2, ?_, trivial⟩, hB.trans hb2⟩⟩
          · rcases List.mem_append.1 hf with h | h
            · exact hok f h
            · rw [List.mem_singleton.1 h]; exact HE.out
          · have := H5.out; simp; omega
          · rw [toks_snoc, List.length_append]; exact hr2
      · have e1 : (x.err != 0) = true := bne_iff_ne.2 he
        have c0 := b0.cell
        have c1 := b1.cell
        have c2 := b2.cell
        have f0 := b0.frozen
        have f1 := b1.frozen
        have f2 := b2.frozen
        have HC := Lib.hid (ret_close (B := W0.heap.size) b0 b1 b2 hB x.err (x.pos : Int))
        have HS : Hid (Stop (pre ++ [x]) x.err (x.pos : Int)) := Lib.hid ⟨pre, x, rfl, hok, hlen, .inl ⟨he, rfl⟩, rfl⟩
        clear hok hlen hrow he
        gi_wp2
        gi_region
        all_goals (gi_wp2; exact ⟨HC.out.1, x.err, (x.pos : Int), ⟨rfl, HS.out⟩, HC.out.2⟩)
    case done =>
      rintro D xs W hD rfl ⟨⟨⟨hok, hlen⟩, b0, b1, b2⟩, ⟨v, bO, hrow, _⟩, hB⟩ hK
      have hrr := lex_of s hs
      rw [run_done _ hok hlen] at hrr
      have HR := Lib.hid hrr
      clear hrr hok hlen
      obtain ⟨A, c, hv⟩ := own_slice hrow
      rw [hv] at bO hrow
      clear hv
      have c3 := bO.cell
      have c0 := b0.cell
      have c1 := b1.cell
      have c2 := b2.cell
      have f0 := b0.frozen
      have f1 := b1.frozen
      have f2 := b2.frozen
      obtain ⟨q0, q1, q2, hrow2, hB2, hK2⟩ := done_close b0 b1 b2 hB hrow hK
      have HQ := Lib.hid (And.intro q0 (And.intro q1 (And.intro q2 (And.intro hrow2 (And.intro hB2 hK2)))))
      clear q0 q1 q2 hrow2 hB2 hK2 hrow
      gi_wp2
      obtain ⟨q0, q1, q2, hrow2, hB2, hK2⟩ := HQ.out
      refine ⟨by simp, .inl ⟨_, _, rfl, run_takeDeferred hK2, ?_⟩⟩
      have hc0 := cell_kept q0.cell (grownBy_putObj' _ D (.deferred none)) (fun r e => by cases e; exact ⟨_, hK2, rfl⟩)
      have hc1 := cell_kept q1.cell (grownBy_putObj' _ D (.deferred none)) (fun r e => by cases e; exact ⟨_, hK2, rfl⟩)
      have hc2 := cell_kept q2.cell (grownBy_putObj' _ D (.deferred none)) (fun r e => by cases e; exact ⟨_, hK2, rfl⟩)
      refine ⟨.tuple #[.slice A (all s).length c, .int .i64 0, .int .i64 0], ?_, .slice A (all s).length c, ?_, ?_, ?_⟩
      · simp [results, Tryd.f29, go_sem, hc0, hc1, hc2]
      · rw [HR.out]
      · rw [HR.out]; exact ownsRow_putObj hrow2 _ hK2 rfl
      · exact hB2.trans (belowK_b (w := W0) (by omega) _ D _ _ hD hK2 rfl rfl)
    case stop =>
      rintro D c pre W hD hpre ⟨e, p, ⟨rfl, hst⟩, ⟨b0, b1, b2⟩, hB⟩ hK
      have hr := lex_of s hs
      rw [run_stop hst hpre] at hr
      gi_wp2
      refine ⟨by simp, .inl ⟨_, _, rfl, run_takeDeferred hK, ?_⟩⟩
      have hc0 := cell_kept b0.cell (grownBy_putObj' _ D (.deferred none)) (fun r e => by cases e; exact ⟨_, hK, rfl⟩)
      have hc1 := cell_kept b1.cell (grownBy_putObj' _ D (.deferred none)) (fun r e => by cases e; exact ⟨_, hK, rfl⟩)
      have hc2 := cell_kept b2.cell (grownBy_putObj' _ D (.deferred none)) (fun r e => by cases e; exact ⟨_, hK, rfl⟩)
      refine ⟨.tuple #[.slice none 0 0, .int .i64 e, .int .i64 p], ?_, .slice none 0 0, ?_, ?_, ?_⟩
      · simp [results, Tryd.f29, go_sem, hc0, hc1, hc2]
      · rw [hr]
      · rw [hr]; exact World.ownsRow_nil _ _ _ _
      · exact hB.trans (belowK_b (w := W0) (by omega) W D _ _ hD hK rfl rfl)
  · have hsz : 20000 < (s.size : Int) := by omega
    gi_wp2
    refine ⟨.tuple #[.slice none 0 0, .int .i64 2, .int .i64 (-1)], ?_, .slice none 0 0, ?_, ?_, ?_⟩
    · simp [results, Tryd.f29, go_sem]
    · rw [lex, if_pos (by rw [Array.length_toList]; exact Nat.lt_of_not_le hs)]
    · rw [lex, if_pos (by rw [Array.length_toList]; exact Nat.lt_of_not_le hs)]; exact World.ownsRow_nil _ _ _ _
    · exact (((Below.refl _ w).alloc (Nat.le_refl _) _).alloc (by simp) _).alloc (by simp; omega) _
end Go.Proofs.YtbmmedoopjjbkaaDoor.Lex
