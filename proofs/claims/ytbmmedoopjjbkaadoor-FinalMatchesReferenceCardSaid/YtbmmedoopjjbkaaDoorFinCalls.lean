/- The contracts of the register's methods, over a plain list. -/
import Derived.Test.YtbmmedoopjjbkaaDoorFinReg
namespace Go.Proofs.YtbmmedoopjjbkaaDoor.Fin
open Go.RowKit Go.Proofs.YtbmmedoopjjbkaaDoor.H Go.Proofs.YtbmmedoopjjbkaaDoorW.PrintWords Go.Proofs.YtbmmedoopjjbkaaDoorW.PrintLast Go.Proofs.YtbmmedoopjjbkaaDoorW.PrintMore
set_option linter.unusedVariables false
attribute [local go_sem] Oper.semAt_some

theorem ba_ne {a b : ByteArray} (h : a ≠ b) : a.data.toList ≠ b.data.toList := by
  intro e
  apply h
  apply ByteArray.ext
  exact Array.toList_inj.1 e
theorem lit_ne {a b : ByteArray} (h : a ≠ b) : Lit.string a.data.toList ≠ Lit.string b.data.toList := fun e => ba_ne h (Lit.string.inj e)
theorem atKey_of_not_has {D : DataW Value} {k : Lit} (h : Maps.has D k = false) (z : DataW Value) : D.atKey k z = z := Maps.atKey_of_not_has h z

/-- A register that has just been made. -/
theorem new_calls (w : World) : Calls Tryd.prog 11 #[] w fun e w' => ∃ b, e = .returned (.pointer (some ⟨b, 0, none⟩)) ∧ RegF w' (ext (fun _ => False) w w') b [] ∧ Below w.heap.size w w' ∧ w.heap.size ≤ b := by
  refine (new_raw w).mono ?_
  rintro e w' ⟨rfl, rfl⟩
  have hs : (newW w).heap.size = w.heap.size + 3 := by simp [newW]
  have e1 : ∀ o, (w.alloc o).heap.size = w.heap.size + 1 := fun o => by simp
  have e2 : ∀ o o', ((w.alloc o).alloc o').heap.size = w.heap.size + 2 := fun o o' => by simp
  have hb : Below w.heap.size w (newW w) := (((Below.refl w.heap.size w).alloc (Nat.le_refl _) _).alloc (by rw [e1]; omega) _).alloc (by rw [e2]; omega) _
  have h0 : (newW w).heap[w.heap.size]? = some (.map #[] 0) := blk_alloc (blk_alloc (blk_new w _) _) _
  have h1 : (newW w).heap[w.heap.size + 1]? = some (.map #[] 0) := by
    have := blk_new (w.alloc (.map #[] 0)) (.map #[] 0)
    rw [e1] at this
    exact blk_alloc this _
  have h2 : (newW w).heap[w.heap.size + 2]? = some (.cells #[.slice none 0 0, .map (some w.heap.size), .map (some (w.heap.size + 1))] 46 (0, 0)) := by
    have := blk_new ((w.alloc (.map #[] 0)).alloc (.map #[] 0)) (.cells #[.slice none 0 0, .map (some w.heap.size), .map (some (w.heap.size + 1))] 46 (0, 0))
    rw [e2] at this
    exact this
  have hm : ∀ (k : TypeId) (b : Nat), (newW w).heap[b]? = some (.map #[] 0) → (newW w).ownsMap Tryd.prog k RV b 0 (.map []) := by
    intro k b hb
    have := World.ownsMap_made w Tryd.prog k RV
    obtain ⟨es, clock, hx, hf, hn, hD⟩ := this
    have hx' : some (Obj.map #[] 0) = some (Obj.map es clock) := by rw [← hx]; exact (MapKept.heap_alloc w _).1.symm
    simp only [Option.some.injEq, Obj.map.injEq] at hx'
    obtain ⟨rfl, rfl⟩ := hx'
    exact ⟨#[], 0, hb, hf, hn, hD⟩
  refine ⟨_, rfl, ⟨none, 0, w.heap.size, w.heap.size + 1, 0, 0, .map [], .map [], ?_⟩, hb, by omega⟩
  exact {
    c0 := (blk_cell h2 0).trans rfl
    c1 := (blk_cell h2 1).trans rfl
    c2 := (blk_cell h2 2).trans rfl
    f0 := blk_frozen h2 0
    ne := ⟨by omega, by omega, by omega⟩
    lb := .inr ⟨by omega, by omega⟩
    li := .inr ⟨by omega, by omega⟩
    ls := .inr ⟨by omega, by omega⟩
    lt := fun k hk => by rcases hk with hk | hk; exact hk.elim; exact hk.2
    own := World.ownsRow_nil _ _ _ _
    ob := fun g hg => by simp [Value.ownBlock] at hg
    mi := hm 9 _ h0
    mil := Nat.le_refl _
    ihas := fun id _ => rfl
    iat := fun v hv => by simp at hv
    ms := hm 51 _ h1
    msl := Nat.le_refl _
    sat := fun m q kl _ => by rw [cur_nil]; intro z; rfl
    good := good_nil }

theorem hasId_snoc (L : List S32) (v : S32) (id : ByteArray) : hasId (L ++ [v]) id = (hasId L id || decide (v.f0 = id)) := by simp [hasId]
theorem has_isKey (s : ByteArray) : WideAt.IsKeyLit (.string s.data.toList) := trivial
/-- The register behind a verdict that was decided. -/
theorem okw_reg {w w' : World} {F : Nat → Prop} {b : Nat} {L : List S32} {A : Option Addr} {c bi bs n1 n2 : Nat} {Di Ds : DataW Value} {v : S32} {kl : Lit} (h : RegAt w F b L A c bi bs n1 n2 Di Ds)
    (hgood : Good (L ++ [v])) (hv : vd v = true) (hi : hasId L v.f0 = false) (hk : keyOf Tryd.prog 51 (.agg #[.string v.f1, .string v.f2]) = some kl) (ho : OKW w w' b bi bs A L.length c v (cellsL L) n1 n2 Di Ds kl) :
    RegF w' (ext F w w') b (L ++ [v]) ∧ KeepF F w w' := by
  obtain ⟨v1, gb, hgb, hb, d0, d1, d2, d3, d4, d5, d6, d7, d8⟩ := ho
  obtain ⟨A1, c1, rfl⟩ := own_slice d4
  have hne : ∀ k, F k → k ≠ b → k ≠ bi → k ≠ bs → some k ≠ (Value.slice A L.length c).ownBlock → w'.heap[k]? = w.heap[k]? := fun k hF h1 h2 h3 h4 => d8.2 k (h.lt k hF) h1 h2 h3 h4
  have hsz := d8.1.size
  have hgl : gb < w'.heap.size := blk_lt hb
  have lbs := h.lt _ h.lb
  have lis := h.lt _ h.li
  have lss := h.lt _ h.ls
  have obl : ∀ g, (Value.slice A1 (L.length + 1) c1).ownBlock = some g → g ≠ b ∧ g ≠ bi ∧ g ≠ bs ∧ ext F w w' g := by
    intro g hg
    rcases d5 with h5 | ⟨g', h5, h6, h7⟩
    · have := h.ob g (h5 ▸ hg)
      exact ⟨this.1, this.2.1, this.2.2.1, .inl this.2.2.2⟩
    · rw [hg] at h5
      obtain rfl := Option.some.inj h5
      have := (d4.lt g hg).2
      exact ⟨by omega, by omega, by omega, .inr ⟨h6, this⟩⟩
  refine ⟨⟨A1, c1, bi, bs, n1 + 1, n2 + 1, Di.put (.string v.f0.data.toList) (.held (.agg #[.string v.f1, .string v.f2])), Ds.put kl (.held (.pointer (some ⟨gb, 0, none⟩))), ?_⟩, d8.1, fun k hk hF => d8.2 k hk (fun e => hF (e ▸ h.lb)) (fun e => hF (e ▸ h.li)) (fun e => hF (e ▸ h.ls)) (fun e => hF (h.ob k e.symm).2.2.2)⟩
  have hlen : (L ++ [v]).length = L.length + 1 := by simp
  exact {
    c0 := by rw [hlen]; exact d0
    c1 := d1
    c2 := d2
    f0 := d3
    ne := h.ne
    lb := .inl h.lb
    li := .inl h.li
    ls := .inl h.ls
    lt := fun k hk => by
      rcases hk with hk | hk
      · exact Nat.lt_of_lt_of_le (h.lt k hk) hsz
      · exact hk.2
    own := by rw [hlen, cellsL_snoc]; exact d4
    ob := by rw [hlen]; exact obl
    mi := d6
    mil := by have := h.mil; omega
    ihas := fun id hid => by
      rw [hasId_snoc, ← h.ihas id hid]
      by_cases e : v.f0 = id
      · subst e
        rw [Maps.has_put_same h.mi.isMap (has_isKey _), decide_eq_true rfl, Bool.or_true]
      · rw [Maps.has_put_other (lit_ne (Ne.symm e)), decide_eq_false e, Bool.or_false]
    iat := fun x hx z => by
      rcases List.mem_append.1 hx with hx | hx
      · have e : x.f0 ≠ v.f0 := by
          intro e
          have : hasId L v.f0 = true := List.any_eq_true.2 ⟨x, hx, decide_eq_true e⟩
          rw [hi] at this; cases this
        rw [Maps.atKey_put_other (lit_ne e)]
        exact h.iat x hx z
      · rw [List.mem_singleton.1 hx]
        exact Maps.atKey_put_same h.mi.isMap (has_isKey _) _ _
    ms := d7
    msl := by have := h.msl; omega
    sat := fun m q kl' hkl => by
      rw [cur_snoc]
      by_cases e : v.f1 = m ∧ v.f2 = q
      · rw [if_pos e]
        obtain ⟨rfl, rfl⟩ := e
        rw [hk] at hkl
        obtain rfl := Option.some.inj hkl
        refine ⟨gb, .inr ⟨hgb, hgl⟩, hb, by omega, by omega, by omega, ?_, fun z => Maps.atKey_put_same h.ms.isMap (K51.key hk) _ _⟩
        rw [hlen]
        intro e
        rcases d5 with h5 | ⟨g', h5, h6, h7⟩
        · rw [h5] at e
          have := h.lt gb (h.ob gb e.symm).2.2.2
          omega
        · rw [h5] at e
          exact h7 (Option.some.inj e).symm
      · rw [if_neg e]
        have hne' : kl' ≠ kl := by
          rintro rfl
          have := K51.inj hk hkl
          simp only [Value.agg.injEq] at this
          apply e
          injection this with this
          simp only [List.cons.injEq, Value.string.injEq, and_true] at this
          exact this
        have hs := h.sat m q kl' hkl
        cases hc : cur L m q with
        | none => rw [hc] at hs; intro z; rw [Maps.atKey_put_other hne']; exact hs z
        | some o =>
          rw [hc] at hs
          obtain ⟨g, g1, g2, g3, g4, g5, g6, g7⟩ := hs
          refine ⟨g, .inl g1, (hne g g1 g3 g4 g5 g6).trans g2, g3, g4, g5, ?_, fun z => by rw [Maps.atKey_put_other hne']; exact g7 z⟩
          rw [hlen]
          rcases d5 with h5 | ⟨g', h5, h6, h7⟩
          · rw [h5]; exact g6
          · rw [h5]
            intro e
            have := Option.some.inj e
            have := h.lt g g1
            omega
    good := hgood }
end Go.Proofs.YtbmmedoopjjbkaaDoor.Fin
