/- What further verdicts leave as it was; the law of append from a row that was handed out. -/
import Derived.Test.YtbmmedoopjjbkaaDoorFinLib
import Derived.Laws.AppendOwnNone
namespace Go.Proofs.YtbmmedoopjjbkaaDoor.Fin
open Go.RowKit Go.Proofs.YtbmmedoopjjbkaaDoor.H Go.Proofs.YtbmmedoopjjbkaaDoorW.PrintWords Go.Proofs.YtbmmedoopjjbkaaDoorW.PrintLast Go.Proofs.YtbmmedoopjjbkaaDoorW.PrintMore
set_option linter.unusedVariables false
set_option linter.unusedSimpArgs false

theorem dec_cur {L : List S32} {v o : S32} (h : dec L v = 0) (hc : cur L v.f1 v.f2 = some o) : o.f0.toList = v.f6.toList ∧ o.f5 = false := by
  obtain ⟨h1, h2, h3⟩ := dec_zero h
  unfold dec at h
  rw [if_neg (by simp [h1]), if_neg (by simp [h2]), if_neg (by simp [h3]), hc] at h
  dsimp only at h
  by_cases e : o.f0.toList = v.f6.toList
  · refine ⟨e, ?_⟩
    rcases hf : o.f5 with _ | _
    · rfl
    · rw [if_neg (by simp [e]), if_pos hf] at h; exact absurd h (by decide)
  · rw [if_pos e] at h; exact absurd h (by decide)
/-- A final verdict stands. -/
def FinS (L : List S32) : Prop := ∀ v ∈ L, v.f5 = true → cur L v.f1 v.f2 = some v
theorem fin_nil : FinS [] := fun v h => by simp at h
theorem fin_step {L : List S32} (h : FinS L) (x : S32) : FinS (step L x) := by
  unfold step
  by_cases hd : dec L x = 0
  · rw [if_pos hd]
    intro v hv hf
    rw [cur_snoc]
    rcases List.mem_append.1 hv with hv | hv
    · by_cases e : x.f1 = v.f1 ∧ x.f2 = v.f2
      · exfalso
        have := h v hv hf
        rw [← e.1, ← e.2] at this
        have := (dec_cur hd this).2
        rw [hf] at this; cases this
      · rw [if_neg e]; exact h v hv hf
    · rw [List.mem_singleton.1 hv, if_pos ⟨rfl, rfl⟩]
  · rw [if_neg hd]; exact h
theorem fin_fold : ∀ (l acc : List S32), FinS acc → FinS (l.foldl step acc)
  | [], acc, h => h
  | v :: l, acc, h => fin_fold l _ (fin_step h v)
theorem mem_step {L : List S32} {v : S32} (h : v ∈ L) (x : S32) : v ∈ step L x := by
  unfold step
  split
  · exact List.mem_append_left _ h
  · exact h
theorem mem_fold : ∀ (l acc : List S32) (v : S32), v ∈ acc → v ∈ l.foldl step acc
  | [], acc, v, h => h
  | x :: l, acc, v, h => mem_fold l _ v (mem_step h x)
theorem st_cur {L : List S32} {v : S32} (hg : Good L) (hv : v ∈ L) (hc : cur L v.f1 v.f2 = some v) : st L v.f0 = true := by
  unfold st
  rw [find_id hg hv]
  simp only [hc, beq_self_eq_true]
theorem val_mem {L : List S32} {v : S32} (hv : v ∈ L) : ∃ n, val L v.f1 v.f2 = (n, true) := by
  obtain ⟨o, ho⟩ := cur_some hv
  exact ⟨o.f3, by unfold val; rw [ho]⟩
theorem stays_pure {L1 : List S32} (hg : Good L1) (hf : FinS L1) (more : List S32) {v : S32} (hv : v ∈ L1) :
    ∃ n, val (more.foldl step L1) v.f1 v.f2 = (n, true) ∧ (v.f5 = true → n = v.f3 ∧ st (more.foldl step L1) v.f0 = true) := by
  have hv2 := mem_fold more L1 v hv
  obtain ⟨n, hn⟩ := val_mem hv2
  refine ⟨n, hn, fun h5 => ?_⟩
  have hc := fin_fold more L1 hf v hv2 h5
  refine ⟨?_, st_cur (good_fold more L1 hg) hv2 hc⟩
  unfold val at hn
  rw [hc] at hn
  exact (Prod.mk.inj hn).1.symm

/-- append of a row that was handed out to a row of the call's own: for the walk. -/
theorem wpList_append_rows {P : Program} (w : World) {ops : Array Oper} {rest : List Oper} {o : Oper} {a : Act} {Q : Exit → Act → World → Prop} (hgd : o.guard = none) (s x : Operand) (t : TypeId)
    (ho : o.op = .call { callee := .builtin .append, args := #[s, x], argTypes := #[t, t] })
    (base base' : Nat) (e : TypeId) (i : TypeInfo) (z : Value) (size bytes : Nat) (ht : P.underlying t = some (.slice e)) (hi : P.info? e = some i) (hz : i.zero = some z)
    (hsize : i.size = size) (hby : i.bytes = bytes) (hzs : z.cells.size = size) (hsz : 0 < size)
    (v : Value) (n : Nat) (xs : List Value) (hs : a.eval s = v) (hown : w.ownsRow base e size v n xs)
    (vx : Value) (m : Nat) (news : List Value) (hx : a.eval x = vx) (hsrc : w.ownsRow base' e size vx m news) (h1 : ∀ u ∈ news, u.oneCell' = true)
    (h63 : n + m ≤ maxLen) (hbytes : (n + m) * bytes ≤ 140737488355328) (hbase : base ≤ w.heap.size)
    (h : ∀ v' w', w'.ownsRow base e size v' (n + m) (xs ++ news) → w.grownBy w' v.ownBlock → (v'.ownBlock = v.ownBlock ∨ v'.ownBlock = some w.heap.size) → wpList P ops Q rest (a.put o.dst v') w') :
    wpList P ops Q (o :: rest) a w := by
  have hsrc' := hsrc
  rcases hsrc with ⟨hl, ⟨rfl, rfl⟩ | ⟨g, cap, cur, rfl, hg, hh, r⟩⟩
  · obtain rfl : news = [] := List.length_eq_zero_iff.1 (by omega)
    refine wpList_append_own_none hgd s x t ho base e i size ht hi v n xs hs hown hx ?_
    exact h v w (by simpa using hown) (World.grownBy.refl w _) (.inl rfl)
  · refine wpList_append_own_at w hgd s x t ho base e i z size bytes ht hi hz hsize hby hzs hsz v n xs hs hown ⟨g, 0, none⟩ m cap news hx hl (fun j u hj => hsrc'.cells (g := g) rfl j u hj) h1 h63 hbytes hbase ?_
    intro v' w' h2 h3 _ h5
    exact h v' w' h2 h3 h5

/-! ### rows beside a register -/
theorem Inv.resnap {wS wd wa : World} {F0 : Nat → Prop} {b : Nat} {L : List S32} (h : Inv wS F0 wd b L) (hb : Below wd.heap.size wd wa) : ∃ F, Inv wa F wa b L ∧ (∀ k, F k → k < wd.heap.size) ∧ ∀ k, F k → F0 k ∨ wS.heap.size ≤ k := by
  obtain ⟨F, h1, h2, h3⟩ := h
  have hlt : ∀ k, F k → k < wd.heap.size := by obtain ⟨_, _, _, _, _, _, _, _, h⟩ := h1; exact h.lt
  exact ⟨F, ⟨F, h1.below hb, fun k hk => .inl hk, ⟨Below.refl _ _, fun _ _ _ => rfl⟩⟩, hlt, h2⟩
theorem keep_row {wa W : World} {F : Nat → Prop} {base : Nat} {v : Value} {n : Nat} {xs : List Value} (h : wa.ownsRow base 32 7 v n xs) (hF : ∀ g, v.ownBlock = some g → ¬ F g) (hk : KeepF F wa W) : W.ownsRow base 32 7 v n xs :=
  own_move h (fun k e => hk.2 k (h.lt k e).2 (hF k e))
theorem keep_below {w wa W : World} {F : Nat → Prop} (h : Below w.heap.size w wa) (hF : ∀ k, F k → w.heap.size ≤ k) (hk : KeepF F wa W) : Below w.heap.size w W :=
  ⟨hk.1.os.trans h.os, hk.1.tape.trans h.tape, hk.1.output.trans h.output, Nat.le_trans h.size hk.1.size, fun k hlt => (hk.2 k (Nat.lt_of_lt_of_le hlt h.size) (fun f => by have := hF k f; omega)).trans (h.block k hlt)⟩
end Go.Proofs.YtbmmedoopjjbkaaDoor.Fin
