/- The register of verdicts: words for its memory, and what each step of a decision leaves of it. -/
import Derived.Test.YtbmmedoopjjbkaaDoorH0
import Derived.Maps.OwnSet
import Derived.DeepKeys4
namespace Go.Proofs.YtbmmedoopjjbkaaDoor.Fin
open Go.RowKit Go.Proofs.YtbmmedoopjjbkaaDoor.H Go.Proofs.YtbmmedoopjjbkaaDoorW.PrintWords Go.Proofs.YtbmmedoopjjbkaaDoorW.PrintLast Go.Proofs.YtbmmedoopjjbkaaDoorW.PrintMore
set_option linter.unusedVariables false

theorem info32 : (Tryd.prog.info? 32).map (fun i => (i.zero, i.size, i.bytes)) = some (some (.agg #[.string ⟨#[]⟩, .string ⟨#[]⟩, .string ⟨#[]⟩, .int .i64 0, .int .i64 0, .bool false, .string ⟨#[]⟩]), 7, 88) := by kernel_rfl
/-- A value of a map, read as itself. -/
def RV (v : Value) : Option (DataW Value × List MemPlace) := some (.held v, [])
theorem wp_gen {P : Program} {c : Code} {Q : Exit → Act → World → Prop} {a : Act} {W : World} (S : World → Prop) (hS : S W) (h : ∀ V, S V → Code.wp P c Q a V) : Code.wp P c Q a W := h W hS
theorem ex_gen {K : Act → World → Prop} {Q' : Exit → Act → World → Prop} {e : Exit} {a : Act} {W : World} (S : World → Prop) (hS : S W) (h : ∀ V, S V → Exit.then K Q' e a V) : Exit.then K Q' e a W := h W hS
def vcells (v : S32) : Array Value := #[.string v.f0, .string v.f1, .string v.f2, .int .i64 v.f3, .int .i64 v.f4, .bool v.f5, .string v.f6]
theorem own_slice {W : World} {base : Nat} {e : TypeId} {size : Nat} {v : Value} {k : Nat} {xs : List Value} (h : W.ownsRow base e size v k xs) : ∃ A c, v = .slice A k c := by
  rcases h.2 with ⟨rfl, rfl⟩ | ⟨g, cap, _, rfl, _⟩
  · exact ⟨_, _, rfl⟩
  · exact ⟨_, _, rfl⟩
/-- Nothing but the register's own blocks has turned. -/
def KP (w V : World) (b bi bs : Nat) (o : Option Nat) : Prop := Below 0 w V ∧ ∀ k, k < w.heap.size → k ≠ b → k ≠ bi → k ≠ bs → some k ≠ o → V.heap[k]? = w.heap[k]?
theorem KP.drew {w V : World} {b bi bs : Nat} {o : Option Nat} (h : KP w V b bi bs o) : KP w V.drew b bi bs o := ⟨h.1.drew, h.2⟩
/-- The world behind a verdict that was decided. -/
def OKW (w w' : World) (b bi bs : Nat) (A : Option Addr) (n c : Nat) (v : S32) (xs : List Value) (n1 n2 : Nat) (Di Ds : DataW Value) (kl : Lit) : Prop :=
  ∃ (v1 : Value) (gb : Nat), w.heap.size ≤ gb ∧ w'.heap[gb]? = some (.cells (vcells v) 32 (0, 0)) ∧ w'.cell? ⟨b, 0, none⟩ = some v1 ∧ w'.cell? ⟨b, 1, none⟩ = some (.map (some bi)) ∧ w'.cell? ⟨b, 2, none⟩ = some (.map (some bs)) ∧ w'.frozen? ⟨b, 0, none⟩ = false ∧
    w'.ownsRow 0 32 7 v1 (n + 1) (xs ++ (vcells v).toList) ∧ (v1.ownBlock = (Value.slice A n c).ownBlock ∨ ∃ g, v1.ownBlock = some g ∧ w.heap.size ≤ g ∧ g ≠ gb) ∧
    w'.ownsMap Tryd.prog 9 RV bi (n1 + 1) (Di.put (.string v.f0.data.toList) (.held (.agg #[.string v.f1, .string v.f2]))) ∧ w'.ownsMap Tryd.prog 51 RV bs (n2 + 1) (Ds.put kl (.held (.pointer (some ⟨gb, 0, none⟩)))) ∧
    KP w w' b bi bs (Value.slice A n c).ownBlock
/-- What Decide answers, and by what. -/
inductive Dec (n : Nat) (v : S32) (day : Int) (tw : Bool) (po : Option Addr) (oid : ByteArray) (fin : Bool) : Int → Prop
  | twice (h : tw = true) : Dec n v day tw po oid fin 9
  | order (h : tw = false) (h1 : 0 < n) (h2 : v.f4 < day) : Dec n v day tw po oid fin 24
  | none (h : tw = false) (h1 : ¬ (0 < n ∧ v.f4 < day)) (h2 : po = .none) (h3 : v.f6.toList ≠ []) : Dec n v day tw po oid fin 11
  | state (h : tw = false) (h1 : ¬ (0 < n ∧ v.f4 < day)) (h2 : po ≠ .none) (h3 : oid.toList ≠ v.f6.toList) : Dec n v day tw po oid fin 12
  | final (h : tw = false) (h1 : ¬ (0 < n ∧ v.f4 < day)) (h2 : po ≠ .none) (h3 : oid.toList = v.f6.toList) (h4 : fin = true) : Dec n v day tw po oid fin 22
  | ok1 (h : tw = false) (h1 : ¬ (0 < n ∧ v.f4 < day)) (h2 : po = .none) (h3 : v.f6.toList = []) : Dec n v day tw po oid fin 0
  | ok2 (h : tw = false) (h1 : ¬ (0 < n ∧ v.f4 < day)) (h2 : po ≠ .none) (h3 : oid.toList = v.f6.toList) (h4 : fin = false) : Dec n v day tw po oid fin 0

/-- Behind the append to the list and the store of the list. -/
def S17 (w : World) (b bi bs : Nat) (o : Option Nat) (gb ga : Nat) (v : S32) (v1 : Value) (n : Nat) (xs : List Value) (V : World) : Prop :=
  V.heap[gb]? = some (.cells (vcells v) 32 (0, 0)) ∧ V.heap[ga]? = some (.cells #[.string v.f1, .string v.f2] 51 (0, 0)) ∧ V.cell? ⟨b, 0, none⟩ = some v1 ∧ V.cell? ⟨b, 1, none⟩ = some (.map (some bi)) ∧ V.cell? ⟨b, 2, none⟩ = some (.map (some bs)) ∧ V.frozen? ⟨b, 0, none⟩ = false ∧
    V.ownsRow 0 32 7 v1 n xs ∧ V.heap[bi]? = w.heap[bi]? ∧ V.heap[bs]? = w.heap[bs]? ∧ (v1.ownBlock = o ∨ ∃ g, v1.ownBlock = some g ∧ w.heap.size ≤ g ∧ g ≠ gb) ∧ KP w V b bi bs o
theorem st17 {w V wa : World} {b bi bs gb ga n c cc1 : Nat} {A A1 : Option Addr} {v : S32} {xs ys : List Value} (HV : Below w.heap.size w V) (BKv : V.heap[gb]? = some (.cells (vcells v) 32 (0, 0))) (BKa : V.heap[ga]? = some (.cells #[.string v.f1, .string v.f2] 51 (0, 0)))
    (GV : w.heap.size ≤ gb) (GA : w.heap.size ≤ ga) (lb : b < w.heap.size) (li : bi < w.heap.size) (ls : bs < w.heap.size) (hbb : bi ≠ bs ∧ b ≠ bi ∧ b ≠ bs)
    (HG : ∀ g, (Value.slice A n c).ownBlock = some g → g ≠ b ∧ g ≠ bi ∧ g ≠ bs ∧ g < w.heap.size)
    (C1 : w.cell? ⟨b, 1, none⟩ = some (.map (some bi))) (C2 : w.cell? ⟨b, 2, none⟩ = some (.map (some bs)))
    (d0 : wa.cell? ⟨b, 0, none⟩ = some (.slice A n c)) (d1 : wa.frozen? ⟨b, 0, none⟩ = false)
    (WO : wa.ownsRow 0 32 7 (.slice A1 (n + 1) cc1) (n + 1) (xs ++ ys)) (WB : Below 0 V wa) (WG : V.drew.grownBy wa (Value.slice A n c).ownBlock)
    (WA : (Value.slice A1 (n + 1) cc1).ownBlock = (Value.slice A n c).ownBlock ∨ ∃ g, (Value.slice A1 (n + 1) cc1).ownBlock = some g ∧ V.drew.heap.size ≤ g) :
    S17 w b bi bs (Value.slice A n c).ownBlock gb ga v (.slice A1 (n + 1) cc1) (n + 1) (xs ++ ys) (wa.setCell ⟨b, 0, none⟩ (.slice A1 (n + 1) cc1)) := by
  have hsz := HV.size
  have blk : ∀ k, k < V.heap.size → k ≠ b → some k ≠ (Value.slice A n c).ownBlock → (wa.setCell ⟨b, 0, none⟩ (.slice A1 (n + 1) cc1)).heap[k]? = V.heap[k]? := fun k hk hkb ho =>
    (Below.heap_setCell wa ⟨b, 0, none⟩ _ k hkb).trans (WG.block k hk ho)
  have far : ∀ k, w.heap.size ≤ k → some k ≠ (Value.slice A n c).ownBlock := fun k hk e => by have := (HG k e.symm).2.2.2; omega
  have nb : some b ≠ (Value.slice A n c).ownBlock := fun e => (HG b e.symm).1 rfl
  have ni : some bi ≠ (Value.slice A n c).ownBlock := fun e => (HG bi e.symm).2.1 rfl
  have ns : some bs ≠ (Value.slice A n c).ownBlock := fun e => (HG bs e.symm).2.2.1 rfl
  have bb : wa.heap[b]? = w.heap[b]? := (WG.block b (Nat.lt_of_lt_of_le lb hsz) nb).trans (HV.block b lb)
  have hob : ∀ g, (Value.slice A1 (n + 1) cc1).ownBlock = some g → g ≠ b := by
    intro g hg
    rcases WA with h | ⟨g', h, h'⟩
    · exact (HG g (h ▸ hg)).1
    · rw [hg] at h
      obtain rfl := Option.some.inj h
      have : w.heap.size ≤ g := Nat.le_trans hsz h'
      omega
  refine ⟨(blk gb (blk_lt BKv) (by omega) (far gb GV)).trans BKv, (blk ga (blk_lt BKa) (by omega) (far ga GA)).trans BKa, World.cell?_setCell_same _ _ _ d0, ?_, ?_, ?_, ?_, ?_, ?_, ?_, ?_, ?_⟩
  · rw [World.cell?_setCell_other _ _ _ _ (by intro e; cases e)]
    exact (World.cell?_of_block (a := ⟨b, 1, none⟩) bb).trans C1
  · rw [World.cell?_setCell_other _ _ _ _ (by intro e; cases e)]
    exact (World.cell?_of_block (a := ⟨b, 2, none⟩) bb).trans C2
  · rw [World.frozen?_setCell]; exact d1
  · exact own_move WO (fun k hk => Below.heap_setCell wa ⟨b, 0, none⟩ _ k (hob k hk))
  · exact (blk bi (Nat.lt_of_lt_of_le li hsz) (Ne.symm hbb.2.1) ni).trans (HV.block bi li)
  · exact (blk bs (Nat.lt_of_lt_of_le ls hsz) (Ne.symm hbb.2.2) ns).trans (HV.block bs ls)
  · rcases WA with h | ⟨g, h, h'⟩
    · exact .inl h
    · exact .inr ⟨g, h, Nat.le_trans hsz h', by have h1 := blk_lt BKv; have h2 : V.heap.size ≤ g := h'; omega⟩
  · exact ((HV.mono (Nat.zero_le _)).trans WB).setCell (Nat.zero_le _) _
  · intro k hk h1 h2 h3 h4
    exact (blk k (Nat.lt_of_lt_of_le hk hsz) h1 h4).trans (HV.block k hk)

/-- Behind the store into the map of names. -/
def S18 (w : World) (b bi bs : Nat) (o : Option Nat) (gb ga : Nat) (v : S32) (v1 : Value) (n : Nat) (xs : List Value) (n1 : Nat) (D1 : DataW Value) (V : World) : Prop :=
  V.heap[gb]? = some (.cells (vcells v) 32 (0, 0)) ∧ V.heap[ga]? = some (.cells #[.string v.f1, .string v.f2] 51 (0, 0)) ∧ V.cell? ⟨b, 0, none⟩ = some v1 ∧ V.cell? ⟨b, 1, none⟩ = some (.map (some bi)) ∧ V.cell? ⟨b, 2, none⟩ = some (.map (some bs)) ∧ V.frozen? ⟨b, 0, none⟩ = false ∧
    V.ownsRow 0 32 7 v1 n xs ∧ V.ownsMap Tryd.prog 9 RV bi n1 D1 ∧ V.heap[bs]? = w.heap[bs]? ∧ (v1.ownBlock = o ∨ ∃ g, v1.ownBlock = some g ∧ w.heap.size ≤ g ∧ g ≠ gb) ∧ KP w V b bi bs o
theorem own_ne {w V : World} {b gb : Nat} {o : Option Nat} {v1 : Value} (ho : ∀ g, o = some g → g ≠ b) (lb : b < w.heap.size) (h : v1.ownBlock = o ∨ ∃ g, v1.ownBlock = some g ∧ w.heap.size ≤ g ∧ g ≠ gb) : ∀ g, v1.ownBlock = some g → g ≠ b := by
  intro g hg
  rcases h with h | ⟨g', h, h', _⟩
  · exact ho g (h ▸ hg)
  · rw [hg] at h
    obtain rfl := Option.some.inj h
    omega
theorem KP.turned {w V V' : World} {b bi bs q : Nat} {o : Option Nat} (h : KP w V b bi bs o) (hg : V.grownBy V' (some q)) (hq : q = bi ∨ q = bs) : KP w V' b bi bs o :=
  ⟨h.1.grown hg (Nat.zero_le _) (fun _ _ => Nat.zero_le _), fun k hk h1 h2 h3 h4 => (hg.block k (Nat.lt_of_lt_of_le hk h.1.size) (fun e => by have := Option.some.inj e; subst this; rcases hq with rfl | rfl; exact h2 rfl; exact h3 rfl)).trans (h.2 k hk h1 h2 h3 h4)⟩
theorem st18 {w V W' : World} {b bi bs gb ga n n1 : Nat} {o : Option Nat} {v : S32} {v1 : Value} {xs : List Value} {D1 : DataW Value} (h : S17 w b bi bs o gb ga v v1 n xs V) (hm : W'.ownsMap Tryd.prog 9 RV bi n1 D1) (hg : V.drew.grownBy W' (some bi))
    (GV : w.heap.size ≤ gb) (GA : w.heap.size ≤ ga) (lb : b < w.heap.size) (li : bi < w.heap.size) (ls : bs < w.heap.size) (hbb : bi ≠ bs ∧ b ≠ bi ∧ b ≠ bs) (ho : ∀ g, o = some g → g ≠ b ∧ g ≠ bi ∧ g ≠ bs ∧ g < w.heap.size) :
    S18 w b bi bs o gb ga v v1 n xs n1 D1 W' := by
  obtain ⟨h1, h2, h3, h4, h5, h6, h7, h8, h9, h10, h11⟩ := h
  have hsz : w.heap.size ≤ V.heap.size := h11.1.size
  have blk : ∀ k, k < V.heap.size → k ≠ bi → W'.heap[k]? = V.heap[k]? := fun k hk hne => hg.block k hk (fun e => hne (Option.some.inj e))
  have bb := blk b (Nat.lt_of_lt_of_le lb hsz) hbb.2.1
  refine ⟨(blk gb (blk_lt h1) (by omega)).trans h1, (blk ga (blk_lt h2) (by omega)).trans h2, (World.cell?_of_block (a := ⟨b, 0, none⟩) bb).trans h3, (World.cell?_of_block (a := ⟨b, 1, none⟩) bb).trans h4, (World.cell?_of_block (a := ⟨b, 2, none⟩) bb).trans h5, (World.frozen?_of_block (a := ⟨b, 0, none⟩) bb).trans h6, ?_, hm, (blk bs (Nat.lt_of_lt_of_le ls hsz) (Ne.symm hbb.1)).trans h9, h10, h11.drew.turned hg (.inl rfl)⟩
  refine own_move h7 (fun k hk => blk k ?_ ?_)
  · exact (h7.lt k hk).2
  · exact own_ne (V := V) (fun g hg => (ho g hg).2.1) li h10 k hk
theorem st19 {w V W' : World} {b bi bs gb ga n c n1 n2 : Nat} {A : Option Addr} {v : S32} {v1 : Value} {xs : List Value} {Di Ds : DataW Value} {kl : Lit} (h : S18 w b bi bs (Value.slice A n c).ownBlock gb ga v v1 (n + 1) (xs ++ (vcells v).toList) (n1 + 1) (Di.put (.string v.f0.data.toList) (.held (.agg #[.string v.f1, .string v.f2]))) V)
    (hm : W'.ownsMap Tryd.prog 51 RV bs (n2 + 1) (Ds.put kl (.held (.pointer (some ⟨gb, 0, none⟩))))) (hg : V.drew.grownBy W' (some bs))
    (GV : w.heap.size ≤ gb) (lb : b < w.heap.size) (li : bi < w.heap.size) (ls : bs < w.heap.size) (hbb : bi ≠ bs ∧ b ≠ bi ∧ b ≠ bs) (ho : ∀ g, (Value.slice A n c).ownBlock = some g → g ≠ b ∧ g ≠ bi ∧ g ≠ bs ∧ g < w.heap.size) :
    OKW w W' b bi bs A n c v xs n1 n2 Di Ds kl := by
  obtain ⟨h1, h2, h3, h4, h5, h6, h7, h8, h9, h10, h11⟩ := h
  have hsz : w.heap.size ≤ V.heap.size := h11.1.size
  have blk : ∀ k, k < V.heap.size → k ≠ bs → W'.heap[k]? = V.heap[k]? := fun k hk hne => hg.block k hk (fun e => hne (Option.some.inj e))
  have bb := blk b (Nat.lt_of_lt_of_le lb hsz) hbb.2.2
  refine ⟨v1, gb, GV, (blk gb (blk_lt h1) (by omega)).trans h1, (World.cell?_of_block (a := ⟨b, 0, none⟩) bb).trans h3, (World.cell?_of_block (a := ⟨b, 1, none⟩) bb).trans h4, (World.cell?_of_block (a := ⟨b, 2, none⟩) bb).trans h5, (World.frozen?_of_block (a := ⟨b, 0, none⟩) bb).trans h6, ?_, h10, h8.drew.kept hg (fun e => hbb.1 (Option.some.inj e)), hm, h11.drew.turned hg (.inr rfl)⟩
  refine own_move h7 (fun k hk => blk k ?_ ?_)
  · exact (h7.lt k hk).2
  · exact own_ne (V := V) (fun g hg => (ho g hg).2.2.1) ls h10 k hk
end Go.Proofs.YtbmmedoopjjbkaaDoor.Fin
