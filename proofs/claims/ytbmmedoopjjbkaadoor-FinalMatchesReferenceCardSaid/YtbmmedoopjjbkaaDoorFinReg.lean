/- The register of verdicts in memory, and the contracts of its methods in plain words. -/
import Derived.Test.YtbmmedoopjjbkaaDoorFinPure
import Derived.Test.YtbmmedoopjjbkaaDoorFinDecide
import Derived.Test.YtbmmedoopjjbkaaDoorFinReads
namespace Go.Proofs.YtbmmedoopjjbkaaDoor.Fin
open Go.RowKit Go.Proofs.YtbmmedoopjjbkaaDoor.H Go.Proofs.YtbmmedoopjjbkaaDoorW.PrintWords Go.Proofs.YtbmmedoopjjbkaaDoorW.PrintLast Go.Proofs.YtbmmedoopjjbkaaDoorW.PrintMore
set_option linter.unusedVariables false
attribute [local go_sem] Oper.semAt_some

theorem key51 (m q : ByteArray) (hm : m.size ≤ maxLen) (hq : q.size ≤ maxLen) : ∃ kl, keyOf Tryd.prog 51 (.agg #[.string m, .string q]) = some kl := by
  have hkt : Tryd.prog.keyType 51 = true := by kernel_rfl
  have hc : Tryd.prog.cellsOf 51 = 2 := by kernel_rfl
  have hc9 : Tryd.prog.cellsOf 9 = 1 := by kernel_rfl
  have hsz : decide (1 ≤ Tryd.prog.types.size) = true := by kernel_rfl
  have hsz' := of_decide_eq_true hsz
  obtain ⟨d, hd⟩ : ∃ d, Tryd.prog.types.size + 1 = d + 2 := ⟨Tryd.prog.types.size - 1, by omega⟩
  have h2 : Tryd.prog.keyLits (d + 2) 51 [.string m, .string q] = some [.string m.data.toList, .string q.data.toList] := by
    simp [Program.keyLits, Tryd.underlying51, Tryd.underlying9, hc, hc9, hm, hq]
  have hf : Value.formed Tryd.prog 51 (.agg #[.string m, .string q]) = true := by simp [Value.formed, Tryd.underlying51, hc]
  unfold keyOf
  rw [Tryd.underlying51]
  simp only [hkt, hf, Bool.and_self, if_true, hd]
  rw [show (Value.agg #[.string m, .string q]).cells.toList = [.string m, .string q] from rfl, h2]
  exact ⟨_, rfl⟩
theorem laidOut : laidOutB Tryd.prog = true := by kernel_rfl
theorem K51 : Maps.Keyed Tryd.prog 51 := Maps.Keyed.of_law (deep_law_laid laidOut (m := 5) (by omega) (of_decide_eq_true (by kernel_rfl)) (by kernel_rfl) (by kernel_rfl))
theorem zero52 (w : World) : (zeroValue 52).run Tryd.prog w = .ok (.pointer none) w := by kernel_rfl
theorem zero51 (w : World) : (zeroValue 51).run Tryd.prog w = .ok (.agg #[.string ⟨#[]⟩, .string ⟨#[]⟩]) w := by kernel_rfl
/-! ### sizes of names -/
theorem tok_size {s : ByteArray} (h : tokB s = true) : s.size ≤ 20000 := by
  have hsn : s.data.toList.length = s.size := Array.length_toList
  by_cases hs : s.size ≤ 20000
  · exact hs
  · exfalso
    unfold tokB tokL Lex.lex at h
    rw [if_pos (by omega)] at h
    simp at h
theorem tok_ne {s : ByteArray} (h : tokB s = true) : s.toList ≠ [] := by
  intro hs
  rw [Lib.toList_data] at hs
  unfold tokB tokL at h
  rw [hs] at h
  exact absurd h (by simp [Lex.lex, Lex.lexL, Lex.run])
theorem vd_parts {v : S32} (h : vd v = true) : tokB v.f0 = true ∧ tokB v.f1 = true ∧ tokB v.f2 = true := by
  unfold vd at h
  simp only [Bool.and_eq_true] at h
  exact ⟨h.1, h.2.1, h.2.2.1⟩
theorem small_max {s : ByteArray} (h : s.size ≤ 20000) : s.size ≤ maxLen := by unfold maxLen; omega

/-! ### the cells of a list -/
def cellsL (L : List S32) : List Value := L.flatMap fun v => (vcells v).toList
theorem cellsL_len (L : List S32) : (cellsL L).length = L.length * 7 := by
  induction L with
  | nil => rfl
  | cons v L ih => simp only [cellsL, List.flatMap_cons, List.length_append, List.length_cons] at ih ⊢; rw [ih]; simp [vcells]; omega
theorem cellsL_snoc (L : List S32) (v : S32) : cellsL (L ++ [v]) = cellsL L ++ (vcells v).toList := by simp [cellsL]
theorem cellsL_get : ∀ (L : List S32) (i j : Nat) (v : S32), L[i]? = some v → j < 7 → (cellsL L)[i * 7 + j]? = (vcells v).toList[j]?
  | [], i, j, v, h, _ => by simp at h
  | a :: L, 0, j, v, h, hj => by
    simp only [List.getElem?_cons_zero, Option.some.injEq] at h
    subst h
    rw [Nat.zero_mul, Nat.zero_add]
    show ((vcells a).toList ++ cellsL L)[j]? = _
    rw [List.getElem?_append_left (by simpa [vcells] using hj)]
  | a :: L, i + 1, j, v, h, hj => by
    rw [List.getElem?_cons_succ] at h
    show ((vcells a).toList ++ cellsL L)[(i + 1) * 7 + j]? = _
    rw [List.getElem?_append_right (by simp [vcells]; omega), show (i + 1) * 7 + j - (vcells a).toList.length = i * 7 + j by simp [vcells]; omega]
    exact cellsL_get L i j v h hj
theorem cellsL_one (L : List S32) : ∀ u ∈ cellsL L, u.oneCell' = true := by
  intro u hu
  obtain ⟨v, _, h⟩ := List.mem_flatMap.1 hu
  simp only [vcells, List.mem_cons, List.not_mem_nil, or_false] at h
  rcases h with rfl | rfl | rfl | rfl | rfl | rfl | rfl <;> rfl

/-- A register's memory: its own blocks are F. -/
structure RegAt (w : World) (F : Nat → Prop) (b : Nat) (L : List S32) (A : Option Addr) (c bi bs n1 n2 : Nat) (Di Ds : DataW Value) : Prop where
  c0 : w.cell? ⟨b, 0, none⟩ = some (.slice A L.length c)
  c1 : w.cell? ⟨b, 1, none⟩ = some (.map (some bi))
  c2 : w.cell? ⟨b, 2, none⟩ = some (.map (some bs))
  f0 : w.frozen? ⟨b, 0, none⟩ = false
  ne : bi ≠ bs ∧ b ≠ bi ∧ b ≠ bs
  lb : F b
  li : F bi
  ls : F bs
  lt : ∀ k, F k → k < w.heap.size
  own : w.ownsRow 0 32 7 (.slice A L.length c) L.length (cellsL L)
  ob : ∀ g, (Value.slice A L.length c).ownBlock = some g → g ≠ b ∧ g ≠ bi ∧ g ≠ bs ∧ F g
  mi : w.ownsMap Tryd.prog 9 RV bi n1 Di
  mil : n1 ≤ L.length
  ihas : ∀ id : ByteArray, id.size ≤ maxLen → Maps.has Di (.string id.data.toList) = hasId L id
  iat : ∀ v ∈ L, ∀ z, Di.atKey (.string v.f0.data.toList) z = .held (.agg #[.string v.f1, .string v.f2])
  ms : w.ownsMap Tryd.prog 51 RV bs n2 Ds
  msl : n2 ≤ L.length
  sat : ∀ m q kl, keyOf Tryd.prog 51 (.agg #[.string m, .string q]) = some kl → match cur L m q with
    | none => ∀ z, Ds.atKey kl z = z
    | some v => ∃ g, F g ∧ w.heap[g]? = some (.cells (vcells v) 32 (0, 0)) ∧ g ≠ b ∧ g ≠ bi ∧ g ≠ bs ∧ some g ≠ (Value.slice A L.length c).ownBlock ∧ ∀ z, Ds.atKey kl z = .held (.pointer (some ⟨g, 0, none⟩))
  good : Good L
def RegF (w : World) (F : Nat → Prop) (b : Nat) (L : List S32) : Prop := ∃ A c bi bs n1 n2 Di Ds, RegAt w F b L A c bi bs n1 n2 Di Ds
/-- Its blocks, and what a call has made. -/
def ext (F : Nat → Prop) (w w' : World) (k : Nat) : Prop := F k ∨ (w.heap.size ≤ k ∧ k < w'.heap.size)
/-- Nothing but blocks of F has turned. -/
def KeepF (F : Nat → Prop) (w w' : World) : Prop := Below 0 w w' ∧ ∀ k, k < w.heap.size → ¬ F k → w'.heap[k]? = w.heap[k]?
theorem KeepF.of_below {F : Nat → Prop} {w w' : World} (h : Below w.heap.size w w') : KeepF F w w' := ⟨h.mono (Nat.zero_le _), fun k hk _ => h.block k hk⟩
theorem RegAt.kept {w w' : World} {F F' : Nat → Prop} {b : Nat} {L : List S32} {A : Option Addr} {c bi bs n1 n2 : Nat} {Di Ds : DataW Value} (h : RegAt w F b L A c bi bs n1 n2 Di Ds) (hk : ∀ k, F k → w'.heap[k]? = w.heap[k]?)
    (hF : ∀ k, F k → F' k) (hl : ∀ k, F' k → k < w'.heap.size) : RegAt w' F' b L A c bi bs n1 n2 Di Ds where
  c0 := (World.cell?_of_block (a := ⟨b, 0, none⟩) (hk b h.lb)).trans h.c0
  c1 := (World.cell?_of_block (a := ⟨b, 1, none⟩) (hk b h.lb)).trans h.c1
  c2 := (World.cell?_of_block (a := ⟨b, 2, none⟩) (hk b h.lb)).trans h.c2
  f0 := (World.frozen?_of_block (a := ⟨b, 0, none⟩) (hk b h.lb)).trans h.f0
  ne := h.ne
  lb := hF _ h.lb
  li := hF _ h.li
  ls := hF _ h.ls
  lt := hl
  own := own_move h.own (fun k e => hk k (h.ob k e).2.2.2)
  ob := fun g e => ⟨(h.ob g e).1, (h.ob g e).2.1, (h.ob g e).2.2.1, hF _ (h.ob g e).2.2.2⟩
  mi := ownsMap_at h.mi (hk bi h.li)
  mil := h.mil
  ihas := h.ihas
  iat := h.iat
  ms := ownsMap_at h.ms (hk bs h.ls)
  msl := h.msl
  sat := fun m q kl hkl => by
    have := h.sat m q kl hkl
    cases hc : cur L m q with
    | none => rw [hc] at this; exact this
    | some v =>
      rw [hc] at this
      obtain ⟨g, g1, g2, g3⟩ := this
      exact ⟨g, hF _ g1, (hk g g1).trans g2, g3⟩
  good := h.good
theorem RegF.kept {w w' : World} {F : Nat → Prop} {b : Nat} {L : List S32} (h : RegF w F b L) (hk : ∀ k, F k → w'.heap[k]? = w.heap[k]?) (hs : w.heap.size ≤ w'.heap.size) : RegF w' F b L := by
  obtain ⟨A, c, bi, bs, n1, n2, Di, Ds, h⟩ := h
  exact ⟨A, c, bi, bs, n1, n2, Di, Ds, h.kept hk (fun _ h => h) (fun k hk => Nat.lt_of_lt_of_le (h.lt k hk) hs)⟩
theorem RegF.below {w w' : World} {F : Nat → Prop} {b : Nat} {L : List S32} (h : RegF w F b L) (hb : Below w.heap.size w w') : RegF w' F b L := by
  obtain ⟨A, c, bi, bs, n1, n2, Di, Ds, h⟩ := h
  exact ⟨A, c, bi, bs, n1, n2, Di, Ds, h.kept (fun k hk => hb.block k (h.lt k hk)) (fun _ h => h) (fun k hk => Nat.lt_of_lt_of_le (h.lt k hk) hb.size)⟩
theorem RegF.ext {w w' : World} {F : Nat → Prop} {b : Nat} {L : List S32} (h : RegF w F b L) (hb : Below w.heap.size w w') : RegF w' (ext F w w') b L := by
  obtain ⟨A, c, bi, bs, n1, n2, Di, Ds, h⟩ := h
  exact ⟨A, c, bi, bs, n1, n2, Di, Ds, h.kept (fun k hk => hb.block k (h.lt k hk)) (fun _ h => .inl h) (fun k hk => by
    rcases hk with hk | hk
    · exact Nat.lt_of_lt_of_le (h.lt k hk) hb.size
    · exact hk.2)⟩
theorem RegF.good {w : World} {F : Nat → Prop} {b : Nat} {L : List S32} (h : RegF w F b L) : Good L := by obtain ⟨_, _, _, _, _, _, _, _, h⟩ := h; exact h.good

/-! ### the maps' answers -/
theorem look44 {w : World} {bs n : Nat} {D : DataW Value} (hm : w.ownsMap Tryd.prog 51 RV bs n D) {m q : ByteArray} {kl : Lit} (hk : keyOf Tryd.prog 51 (.agg #[.string m, .string q]) = some kl) {x : Value} (hat : D.atKey kl (.held (.pointer none)) = .held x) (w' : World) (e : w'.heap[bs]? = w.heap[bs]?) :
    (Instr.lookup 44 (.map (some bs)) (.agg #[.string m, .string q]) false).run Tryd.prog w' = .ok x w' := by
  obtain ⟨v, ps, hr, hv⟩ := (ownsMap_at hm e).lookup K51 Tryd.underlying44 (zero52 w') (zd := .held (.pointer none)) (zp := []) rfl hk
  rw [hat] at hv
  simp only [RV, Option.some.injEq, Prod.mk.injEq, DataW.held.injEq] at hv
  rw [← hv.1]; exact hr
theorem look43 {w : World} {bi n : Nat} {D : DataW Value} (hm : w.ownsMap Tryd.prog 9 RV bi n D) {id : ByteArray} (hs : id.size ≤ maxLen) {x : Value} (hat : D.atKey (.string id.data.toList) (.held (.agg #[.string ⟨#[]⟩, .string ⟨#[]⟩])) = .held x) (w' : World) (e : w'.heap[bi]? = w.heap[bi]?) :
    (Instr.lookup 43 (.map (some bi)) (.string id) true).run Tryd.prog w' = .ok (.tuple #[x, .bool (Maps.has D (.string id.data.toList))]) w' := by
  obtain ⟨v, ps, hr, hv⟩ := (ownsMap_at hm e).look_ok (Maps.string_keyed Tryd.underlying9) Tryd.underlying43 (zero51 w') (zd := .held (.agg #[.string ⟨#[]⟩, .string ⟨#[]⟩])) (zp := []) rfl (WideMaps.keyOf_string_mk Tryd.underlying9 hs)
  rw [hat] at hv
  simp only [RV, Option.some.injEq, Prod.mk.injEq, DataW.held.injEq] at hv
  rw [← hv.1]; exact hr
end Go.Proofs.YtbmmedoopjjbkaaDoor.Fin
