/- FinalMatchesReference, walked: both registers, side by side. -/
import Derived.Test.YtbmmedoopjjbkaaDoorFinLib
import Derived.Test.YtbmmedoopjjbkaaDoorFinRef2
namespace Go.Proofs.YtbmmedoopjjbkaaDoor.Fin
open Go.RowKit Go.Proofs.YtbmmedoopjjbkaaDoor.H Go.Proofs.YtbmmedoopjjbkaaDoorW.PrintWords Go.Proofs.YtbmmedoopjjbkaaDoorW.PrintLast Go.Proofs.YtbmmedoopjjbkaaDoorW.PrintMore
set_option linter.unusedVariables false
set_option linter.unusedSimpArgs false
attribute [local go_sem] Oper.semAt_some

/-- The program's register and the reference's, beside each other. -/
def Both (w0 w : World) (a b : Nat) (La Lb : List S32) : Prop :=
  ∃ F G, RegF w F a La ∧ RefF w G b Lb ∧ (∀ k, F k → ¬ G k) ∧ (∀ k, F k → k < w.heap.size) ∧ (∀ k, G k → k < w.heap.size) ∧ (∀ k, F k → w0.heap.size ≤ k) ∧ (∀ k, G k → w0.heap.size ≤ k) ∧ Below w0.heap.size w0 w
theorem RegF.lt {w : World} {F : Nat → Prop} {b : Nat} {L : List S32} (h : RegF w F b L) : ∀ k, F k → k < w.heap.size := by obtain ⟨_, _, _, _, _, _, _, _, h⟩ := h; exact h.lt
theorem RefF.lt {w : World} {G : Nat → Prop} {b : Nat} {L : List S32} (h : RefF w G b L) : ∀ k, G k → k < w.heap.size := by obtain ⟨_, _, h⟩ := h; exact h.lt
theorem Both.below {w0 w w' : World} {a b : Nat} {La Lb : List S32} (h : Both w0 w a b La Lb) (hb : Below w.heap.size w w') : Both w0 w' a b La Lb := by
  obtain ⟨F, G, h1, h2, h3, h4, h5, h6, h7, h8⟩ := h
  exact ⟨F, G, h1.below hb, h2.below hb, h3, fun k hk => Nat.lt_of_lt_of_le (h4 k hk) hb.size, fun k hk => Nat.lt_of_lt_of_le (h5 k hk) hb.size, h6, h7, below_step h8 hb⟩
theorem Both.b0 {w0 w : World} {a b : Nat} {La Lb : List S32} (h : Both w0 w a b La Lb) : Below w0.heap.size w0 w := by obtain ⟨_, _, _, _, _, _, _, _, _, h⟩ := h; exact h
theorem both_new (w0 w : World) (h : Below w0.heap.size w0 w) : Calls Tryd.prog 11 #[] w fun e w1 => ∃ a, e = .returned (.pointer (some ⟨a, 0, none⟩)) ∧ ∀ w1', w1' = w1 → Calls Tryd.prog 12 #[] w1' fun e w2 => ∃ b, e = .returned (.pointer (some ⟨b, 0, none⟩)) ∧ Both w0 w2 a b [] [] := by
  refine (new_calls w).mono ?_
  rintro e w1 ⟨a, rfl, h1, h2, h3⟩
  refine ⟨a, rfl, ?_⟩
  rintro w9 rfl
  refine (ref_new w9).mono ?_
  rintro e w2 ⟨b, rfl, g1, g2, g3⟩
  have hs := h.size
  refine ⟨b, rfl, _, _, h1.below g2, g1, fun k hk e => ?_, fun k hk => Nat.lt_of_lt_of_le (h1.lt k hk) g2.size, g1.lt, fun k hk => ?_, fun k hk => ?_, below_step (below_step h h2) g2⟩
  · have := h1.lt k hk
    omega
  · rcases hk with hk | hk
    · exact hk.elim
    · omega
  · have := h2.size
    omega
theorem both_decA {w0 w : World} {a b : Nat} {La Lb : List S32} (v : S32) (h : Both w0 w a b La Lb) (hn : La.length ≤ 1000000) :
    Calls Tryd.prog 13 #[.pointer (some ⟨a, 0, none⟩), .agg (vcells v)] w fun e w' => e = .returned (.int .i64 (dec La v)) ∧ Both w0 w' a b (step La v) Lb := by
  obtain ⟨F, G, h1, h2, h3, h4, h5, h6, h7, h8⟩ := h
  refine (decide_calls w F a La v h1 hn).mono ?_
  rintro e w' ⟨rfl, hr, hk⟩
  have hs := hk.1.size
  refine ⟨rfl, _, G, hr, h2.kept (fun k hG => hk.2 k (h5 k hG) (fun hF => h3 k hF hG)) hs, fun k hF hG => ?_, hr.lt, fun k hG => Nat.lt_of_lt_of_le (h5 k hG) hs, fun k hF => ?_, h7, keep_below h8 h6 hk⟩
  · rcases hF with hF | hF
    · exact h3 k hF hG
    · have := h5 k hG; omega
  · rcases hF with hF | hF
    · exact h6 k hF
    · have := h8.size; omega
theorem both_decB {w0 w : World} {a b : Nat} {La Lb : List S32} (v : S32) (h : Both w0 w a b La Lb) (hf : Fits6 v) (hn : Lb.length ≤ 1000000) :
    Calls Tryd.prog 14 #[.pointer (some ⟨b, 0, none⟩), .agg (vcells v)] w fun e w' => e = .returned (.int .i64 (dec Lb v)) ∧ Both w0 w' a b La (step Lb v) := by
  obtain ⟨F, G, h1, ⟨A, c, h2⟩, h3, h4, h5, h6, h7, h8⟩ := h
  refine (ref_decide w G b Lb A c v h2 hf hn).mono ?_
  rintro e w' ⟨rfl, G', hr, hG, hk⟩
  have hs := hk.1.size
  refine ⟨rfl, F, G', h1.kept (fun k hF => hk.2 k (h4 k hF) (fun e => h3 k hF (by have := h2.lb; have e : k = b := e; rw [e]; exact this))) hs, hr, fun k hF hG' => ?_, fun k hF => Nat.lt_of_lt_of_le (h4 k hF) hs, hr.lt, h6, fun k hG' => ?_, keep_below h8 (fun k e => by have e : k = b := e; rw [e]; exact h7 b h2.lb) hk⟩
  · rcases hG k hG' with h | h
    · exact h3 k hF h
    · have := h4 k hF; omega
  · rcases hG k hG' with h | h
    · exact h7 k h
    · have := h8.size; omega
theorem both_stA {w0 w : World} {a b : Nat} {La Lb : List S32} (id : ByteArray) (h : Both w0 w a b La Lb) (hi : id.size ≤ maxLen) :
    Calls Tryd.prog 15 #[.pointer (some ⟨a, 0, none⟩), .string id] w fun e w' => e = .returned (.bool (st La id)) ∧ Below w.heap.size w w' := by
  obtain ⟨F, G, h1, h2, _⟩ := h
  exact stands_calls w F a La id h1 hi
theorem both_stB {w0 w : World} {a b : Nat} {La Lb : List S32} (id : ByteArray) (h : Both w0 w a b La Lb) (hn : Lb.length ≤ 1000000) :
    Calls Tryd.prog 16 #[.pointer (some ⟨b, 0, none⟩), .string id] w fun e w' => e = .returned (.bool (st Lb id)) ∧ Below w.heap.size w w' := by
  obtain ⟨F, G, h1, ⟨A, c, h2⟩, _⟩ := h
  exact ref_stands w G b Lb A c id h2 hn
theorem both_valA {w0 w : World} {a b : Nat} {La Lb : List S32} (m q : ByteArray) (h : Both w0 w a b La Lb) (hm : m.size ≤ maxLen) (hq : q.size ≤ maxLen) :
    Calls Tryd.prog 17 #[.pointer (some ⟨a, 0, none⟩), .string m, .string q] w fun e w' => e = .returned (.tuple #[.int .i64 (val La m q).1, .bool (val La m q).2]) ∧ w' = w := by
  obtain ⟨F, G, h1, h2, _⟩ := h
  exact value_calls w F a La m q h1 hm hq
theorem both_valB {w0 w : World} {a b : Nat} {La Lb : List S32} (m q : ByteArray) (h : Both w0 w a b La Lb) (hn : Lb.length ≤ 1000000) :
    Calls Tryd.prog 18 #[.pointer (some ⟨b, 0, none⟩), .string m, .string q] w fun e w' => e = .returned (.tuple #[.int .i64 (val Lb m q).1, .bool (val Lb m q).2]) ∧ w' = w := by
  obtain ⟨F, G, h1, ⟨A, c, h2⟩, _⟩ := h
  exact ref_value w G b Lb A c m q h2 hn
theorem both_listA {w0 w : World} {a b : Nat} {La Lb : List S32} (h : Both w0 w a b La Lb) (hn : La.length ≤ 1000000) :
    Calls Tryd.prog 20 #[.pointer (some ⟨a, 0, none⟩)] w fun e w' => ∃ A c, e = .returned (.slice A La.length c) ∧ Kd.C k32 w' A La.length La ∧ La.length ≤ c ∧ Below w.heap.size w w' := by
  obtain ⟨F, G, h1, h2, _⟩ := h
  refine (list_calls w F a La h1 hn).mono ?_
  rintro e w' ⟨v, rfl, ho, hb⟩
  obtain ⟨A, c, rfl⟩ := own_slice ho
  exact ⟨A, c, rfl, C_of_cells ho rfl hn, own_cap ho, hb⟩
theorem both_listB {w0 w : World} {a b : Nat} {La Lb : List S32} (h : Both w0 w a b La Lb) (hn : Lb.length ≤ 1000000) :
    Calls Tryd.prog 21 #[.pointer (some ⟨b, 0, none⟩)] w fun e w' => ∃ A c, e = .returned (.slice A Lb.length c) ∧ Kd.C k32 w' A Lb.length Lb ∧ Lb.length ≤ c ∧ w' = w := by
  obtain ⟨F, G, h1, ⟨A, c, h2⟩, _⟩ := h
  refine (ref_list w G b Lb A c h2).mono ?_
  rintro e w' ⟨rfl, rfl⟩
  exact ⟨A, c, rfl, h2.row hn, own_cap h2.own, rfl⟩

set_option maxRecDepth 100000 in
set_option maxHeartbeats 8000000 in
theorem FinalMatchesReference_calls (A0 : Option Addr) (c0 : Nat) (l0 : List S32) (a1 a2 a3 : ByteArray) (w : World) (hr0 : Kd.C k32 w A0 l0.length l0) (hc0 : l0.length ≤ c0) (hf0 : ∀ v ∈ l0, Fits6 v) (h1 : a1.size ≤ 140737488351232) (h2 : a2.size ≤ 140737488351232) (h3 : a3.size ≤ 140737488351232) :
    Calls Tryd.prog 3 #[.slice A0 l0.length c0, .string a1, .string a2, .string a3] w fun e w' => e = .returned (.bool true) ∧ Below w.heap.size w w' := by
  obtain ⟨r, h60, hfew⟩ := few_calls A0 c0 l0 60 w hr0 hc0
  have HR0 := Aside0.mk hr0
  have HF0 := Aside0.mk hf0
  have HB := Aside0.mk (Below.refl w.heap.size w)
  have HS1 : Aside0 (a1.size ≤ maxLen) := ⟨by unfold maxLen; omega⟩
  have HS2 : Aside0 (a2.size ≤ maxLen) := ⟨by unfold maxLen; omega⟩
  have HS3 : Aside0 (a3.size ≤ maxLen) := ⟨by unfold maxLen; omega⟩
  clear hr0 hc0 hf0
  cases r with
  | false =>
    clear h60 h1 h2 h3
    go_enter Tryd.func3, Tryd.ntmps3
    go_wp2_with (first | ((with_reducible refine gate_dst (N := 21) rfl ?_); (try (refine gate_guard (by rfl) ?_; dsimp only)); refine goesL_ (some 21) rfl rfl Tryd.func9 (by kernel_rfl) rfl #[] rfl (by (try simp only [List.map_toArray, List.map_cons, List.map_nil]); first | done | rfl) ?_; refine (head_calls _).mono ?_; rintro e wh ⟨rfl, hb⟩; have HB1 := Aside0.mk (below_step HB.out hb); clear hb HB; have HB := HB1; clear HB1; refine ⟨_, rfl, ?_⟩) | ((with_reducible refine gate_dst (N := 23) rfl ?_); (try (refine gate_guard (by rfl) ?_; dsimp only)); refine goesL_ (some 23) rfl rfl Tryd.func10 (by kernel_rfl) rfl #[.slice A0 l0.length c0, .int .i64 60] rfl (by (try simp only [List.map_toArray, List.map_cons, List.map_nil]); first | done | rfl) ?_; refine (hfew _ (Kd.C_below HR0.out HB.out)).mono ?_; rintro e w2 ⟨rfl, hb⟩; have HB1 := Aside0.mk (below_step HB.out hb); clear hb HB; have HB := HB1; clear HB1; refine ⟨_, rfl, ?_⟩))
    go_ret
    exact ⟨rfl, HB.out⟩
  | true =>
    have HL60 := Aside0.mk (h60 rfl)
    clear h60
    have hw1 : wrap64 ((a1.size : Int) + (a2.size : Int)) = (a1.size : Int) + (a2.size : Int) := by unfold wrap64; omega
    have hw2 : wrap64 ((a1.size : Int) + (a2.size : Int) + (a3.size : Int)) = (a1.size : Int) + (a2.size : Int) + (a3.size : Int) := by unfold wrap64; omega
    clear h1 h2 h3
    rcases hs3 : decide ((300 : Int) < (a1.size : Int) + (a2.size : Int) + (a3.size : Int)) with _ | _
    case true =>
      go_enter Tryd.func3, Tryd.ntmps3
      go_wp2_with (first | ((with_reducible refine gate_dst (N := 21) rfl ?_); (try (refine gate_guard (by rfl) ?_; dsimp only)); refine goesL_ (some 21) rfl rfl Tryd.func9 (by kernel_rfl) rfl #[] rfl (by (try simp only [List.map_toArray, List.map_cons, List.map_nil]); first | done | rfl) ?_; refine (head_calls _).mono ?_; rintro e wh ⟨rfl, hb⟩; have HB1 := Aside0.mk (below_step HB.out hb); clear hb HB; have HB := HB1; clear HB1; refine ⟨_, rfl, ?_⟩) | ((with_reducible refine gate_dst (N := 23) rfl ?_); (try (refine gate_guard (by rfl) ?_; dsimp only)); refine goesL_ (some 23) rfl rfl Tryd.func10 (by kernel_rfl) rfl #[.slice A0 l0.length c0, .int .i64 60] rfl (by (try simp only [List.map_toArray, List.map_cons, List.map_nil]); first | done | rfl) ?_; refine (hfew _ (Kd.C_below HR0.out HB.out)).mono ?_; rintro e w2 ⟨rfl, hb⟩; have HB1 := Aside0.mk (below_step HB.out hb); clear hb HB; have HB := HB1; clear HB1; refine ⟨_, rfl, ?_⟩))
      go_ret
      exact ⟨rfl, HB.out⟩
    go_enter Tryd.func3, Tryd.ntmps3
    go_wp2_with (first | ((with_reducible refine gate_dst (N := 21) rfl ?_); (try (refine gate_guard (by rfl) ?_; dsimp only)); refine goesL_ (some 21) rfl rfl Tryd.func9 (by kernel_rfl) rfl #[] rfl (by (try simp only [List.map_toArray, List.map_cons, List.map_nil]); first | done | rfl) ?_; refine (head_calls _).mono ?_; rintro e wh ⟨rfl, hb⟩; have HB1 := Aside0.mk (below_step HB.out hb); clear hb HB; have HB := HB1; clear HB1; refine ⟨_, rfl, ?_⟩) | ((with_reducible refine gate_dst (N := 23) rfl ?_); (try (refine gate_guard (by rfl) ?_; dsimp only)); refine goesL_ (some 23) rfl rfl Tryd.func10 (by kernel_rfl) rfl #[.slice A0 l0.length c0, .int .i64 60] rfl (by (try simp only [List.map_toArray, List.map_cons, List.map_nil]); first | done | rfl) ?_; refine (hfew _ (Kd.C_below HR0.out HB.out)).mono ?_; rintro e w2 ⟨rfl, hb⟩; have HB1 := Aside0.mk (below_step HB.out hb); clear hb HB; have HB := HB1; clear HB1; refine ⟨_, rfl, ?_⟩) | ((with_reducible refine gate_dst (N := 37) rfl ?_); (try (refine gate_guard (by rfl) ?_; dsimp only)); refine goesL_ (some 37) rfl rfl Tryd.func11 (by kernel_rfl) rfl #[] rfl (by (try simp only [List.map_toArray, List.map_cons, List.map_nil]); first | done | rfl) ?_; refine (both_new w _ HB.out).mono ?_; rintro e w3 ⟨a, rfl, hnb⟩; have HNB := Aside0.mk hnb; clear hnb; refine ⟨_, rfl, ?_⟩) | ((with_reducible refine gate_dst (N := 38) rfl ?_); (try (refine gate_guard (by rfl) ?_; dsimp only)); refine goesL_ (some 38) rfl rfl Tryd.func12 (by kernel_rfl) rfl #[] rfl (by (try simp only [List.map_toArray, List.map_cons, List.map_nil]); first | done | rfl) ?_; refine (HNB.out _ rfl).mono ?_; rintro e w4 ⟨b, rfl, hs⟩; have HS := Aside0.mk hs; clear hs HNB; refine ⟨_, rfl, ?_⟩))
    go_loopg [12] (l0.length + 1) (fun g v W => ∃ i : Nat, v = .int .i64 i ∧ i ≤ l0.length ∧ Aside0 (l0.length - i < g) ∧ Aside0 (Both w W a b ((l0.take i).foldl step []) ((l0.take i).foldl step [])))
    case atStart => exact ⟨0, rfl, Nat.zero_le _, ⟨by omega⟩, ⟨HS.out⟩⟩
    case round =>
      obtain ⟨i, rfl, hi1, HG, HI⟩ := hrel
      obtain ⟨g, rfl⟩ : ∃ g, gk = g + 1 := ⟨gk - 1, by have := HG.out; omega⟩
      clear hw1 hw2 hs3
      by_cases hlt : i < l0.length
      · have e2 : decide ((i : Int) < (l0.length : Int)) = true := decide_eq_true (by omega)
        have e3 : decide (i < l0.length) = true := decide_eq_true (by omega)
        have p0 : (0 ≤ (i : Int)) = True := eq_true (by omega)
        have p2 : ((i : Int) < (l0.length : Int)) = True := eq_true (by omega)
        have hw : wrap64 ((i : Int) + 1) = (i : Int) + 1 := by unfold wrap64; have := HL60.out; omega
        have hCW := Kd.C_below HR0.out HI.out.b0
        obtain ⟨ad0, rfl, _⟩ := at_T32 hCW (i : Int) (by omega) (by omega)
        have HLT := Aside0.mk hlt
        have HF : ∀ w' : World, Kd.C k32 w' (some ad0) l0.length l0 → w'.cell? (ad0.add (i * 7)) = some (.string (rd_T32 l0 (i : Int)).f0) ∧ w'.cell? ⟨(ad0.add (i * 7)).block, (ad0.add (i * 7)).off + 1, none⟩ = some (.string (rd_T32 l0 (i : Int)).f1) ∧ w'.cell? ⟨(ad0.add (i * 7)).block, (ad0.add (i * 7)).off + 2, none⟩ = some (.string (rd_T32 l0 (i : Int)).f2) ∧ w'.cell? ⟨(ad0.add (i * 7)).block, (ad0.add (i * 7)).off + 3, none⟩ = some (.int .i64 (rd_T32 l0 (i : Int)).f3) ∧ w'.cell? ⟨(ad0.add (i * 7)).block, (ad0.add (i * 7)).off + 4, none⟩ = some (.int .i64 (rd_T32 l0 (i : Int)).f4) ∧ w'.cell? ⟨(ad0.add (i * 7)).block, (ad0.add (i * 7)).off + 5, none⟩ = some (.bool (rd_T32 l0 (i : Int)).f5) ∧ w'.cell? ⟨(ad0.add (i * 7)).block, (ad0.add (i * 7)).off + 6, none⟩ = some (.string (rd_T32 l0 (i : Int)).f6) := by
          intro w' h
          obtain ⟨ad1, hA1, h⟩ := at_T32 h (i : Int) (Int.natCast_nonneg i) (by have := HLT.out; omega)
          cases hA1
          simpa only [Int.toNat_natCast] using h
        have HNX := Aside0.mk (fold_take l0 [] i hlt)
        obtain ⟨L, hL⟩ : ∃ L, (l0.take i).foldl step [] = L := ⟨_, rfl⟩
        have HLn : Aside0 (L.length ≤ 60) := ⟨by have h1 := fold_len (l0.take i) []; rw [hL, List.length_take] at h1; simp only [List.length_nil] at h1; have := HL60.out; omega⟩
        rw [hL] at HI HNX
        have HFT := Aside0.mk (HF0.out _ (by rw [rd_get l0 i hlt]; exact List.getElem_mem hlt : (rd_T32 l0 (i : Int)) ∈ l0))
        obtain ⟨L', hL'⟩ : ∃ L', step L (rd_T32 l0 (i : Int)) = L' := ⟨_, rfl⟩
        have HLs := Aside0.mk hL'
        have HLm : Aside0 (L'.length ≤ 61) := ⟨by have := step_len L (rd_T32 l0 (i : Int)); have := HLn.out; rw [← hL']; omega⟩
        obtain ⟨cd, hcd⟩ : ∃ cd, dec L (rd_T32 l0 (i : Int)) = cd := ⟨_, rfl⟩
        have HCD := Aside0.mk hcd
        obtain ⟨sb, hsb⟩ : ∃ sb, st L' (rd_T32 l0 (i : Int)).f0 = sb := ⟨_, rfl⟩
        have HSB := Aside0.mk hsb
        obtain ⟨nv, sv, hval⟩ : ∃ nv sv, val L' (rd_T32 l0 (i : Int)).f1 (rd_T32 l0 (i : Int)).f2 = (nv, sv) := ⟨_, _, rfl⟩
        have HVL := Aside0.mk hval
        have hq1 : (cd != cd) = false := bne_eq_false_iff_eq.2 rfl
        have hq2 : (sb != sb) = false := bne_eq_false_iff_eq.2 rfl
        have hq3 : (nv != nv) = false := bne_eq_false_iff_eq.2 rfl
        have hq4 : (sv != sv) = false := bne_eq_false_iff_eq.2 rfl
        clear hlt hL hL' hcd hsb hval
        go_wp2
        refine start_ (n := 30) (S := fun w' => w'.cell? (ad0.add (i * 7)) = some (.string (rd_T32 l0 (i : Int)).f0) ∧ w'.cell? ⟨(ad0.add (i * 7)).block, (ad0.add (i * 7)).off + 1, none⟩ = some (.string (rd_T32 l0 (i : Int)).f1) ∧ w'.cell? ⟨(ad0.add (i * 7)).block, (ad0.add (i * 7)).off + 2, none⟩ = some (.string (rd_T32 l0 (i : Int)).f2) ∧ w'.cell? ⟨(ad0.add (i * 7)).block, (ad0.add (i * 7)).off + 3, none⟩ = some (.int .i64 (rd_T32 l0 (i : Int)).f3) ∧ w'.cell? ⟨(ad0.add (i * 7)).block, (ad0.add (i * 7)).off + 4, none⟩ = some (.int .i64 (rd_T32 l0 (i : Int)).f4) ∧ w'.cell? ⟨(ad0.add (i * 7)).block, (ad0.add (i * 7)).off + 5, none⟩ = some (.bool (rd_T32 l0 (i : Int)).f5) ∧ w'.cell? ⟨(ad0.add (i * 7)).block, (ad0.add (i * 7)).off + 6, none⟩ = some (.string (rd_T32 l0 (i : Int)).f6)) (ds := []) #[false, false, false, false, false, false, false, false, false, false, false, false, false, false, false, false, false, false, false, false, false, false, false, false, false, false, false, false, false, false] (by kernel_rfl) rfl rfl (HF wr.drew (Kd.C_below hCW (Below.refl _ _).drew)) (fun hHeld => ?_)
        clear hCW
        refine pure_ (i := 0) (N := some 45) (v := ?_) (a' := ?_) #[true, false, false, false, false, false, false, false, false, false, false, false, false, false, false, false, false, false, false, false, false, false, false, false, false, false, false, false, false, false] rfl rfl (by kernel_rfl) (fun _ _ _ h => h) (Or.inl ⟨by rfl, ?_⟩) ?_ ?_
        rotate_left
        · intro w'
          go_simp
          with_reducible rfl
        rotate_left
        · simp only [Act.put, List.setIfInBounds_toArray, List.set_cons_zero, List.set_cons_succ, i64_w, i32_w]
          rfl
        refine pure_ (i := 1) (N := some 46) (v := ?_) (a' := ?_) #[true, true, false, false, false, false, false, false, false, false, false, false, false, false, false, false, false, false, false, false, false, false, false, false, false, false, false, false, false, false] rfl rfl (by kernel_rfl) (fun _ _ _ h => h) (Or.inl ⟨by rfl, ?_⟩) ?_ ?_
        rotate_left
        · intro w'
          go_simp
          with_reducible rfl
        rotate_left
        · simp only [Act.put, List.setIfInBounds_toArray, List.set_cons_zero, List.set_cons_succ, i64_w, i32_w]
          rfl
        refine pure_ (i := 2) (N := some 47) (v := ?_) (a' := ?_) #[true, true, true, false, false, false, false, false, false, false, false, false, false, false, false, false, false, false, false, false, false, false, false, false, false, false, false, false, false, false] rfl rfl (by kernel_rfl) (fun _ _ _ h => h) (Or.inl ⟨by rfl, ?_⟩) ?_ ?_
        rotate_left
        · intro w'
          go_simp
          with_reducible rfl
        rotate_left
        · simp only [Act.put, List.setIfInBounds_toArray, List.set_cons_zero, List.set_cons_succ, i64_w, i32_w]
          rfl
        refine pure_ (i := 3) (N := some 48) (v := ?_) (a' := ?_) #[true, true, true, true, false, false, false, false, false, false, false, false, false, false, false, false, false, false, false, false, false, false, false, false, false, false, false, false, false, false] rfl rfl (by kernel_rfl) (fun _ _ _ h => h) (Or.inl ⟨by rfl, ?_⟩) ?_ ?_
        rotate_left
        · intro w'
          go_simp
          with_reducible rfl
        rotate_left
        · simp only [Act.put, List.setIfInBounds_toArray, List.set_cons_zero, List.set_cons_succ, i64_w, i32_w]
          rfl
        refine take_ (i := 4) (N := some 49) (v := ?_) (a' := ?_) #[true, true, true, true, true, false, false, false, false, false, false, false, false, false, false, false, false, false, false, false, false, false, false, false, false, false, false, false, false, false] rfl rfl (by kernel_rfl) (fun _ _ _ h => h) (Or.inl ⟨by rfl, ?_⟩) hHeld ?_ ?_
        rotate_left
        · rintro w' ⟨s0, s1, s2, s3, s4, s5, s6⟩
          go_simp
          with_reducible rfl
        rotate_left
        · simp only [Act.put, List.setIfInBounds_toArray, List.set_cons_zero, List.set_cons_succ, i64_w, i32_w]
          rfl
        refine pure_ (i := 6) (N := some 51) (v := ?_) (a' := ?_) #[true, true, true, true, true, false, true, false, false, false, false, false, false, false, false, false, false, false, false, false, false, false, false, false, false, false, false, false, false, false] rfl rfl (by kernel_rfl) (fun _ _ _ h => h) (Or.inl ⟨by rfl, ?_⟩) ?_ ?_
        rotate_left
        · intro w'
          go_simp
          with_reducible rfl
        rotate_left
        · simp only [Act.put, List.setIfInBounds_toArray, List.set_cons_zero, List.set_cons_succ, i64_w, i32_w]
          rfl
        refine pure_ (i := 7) (N := some 52) (v := ?_) (a' := ?_) #[true, true, true, true, true, false, true, true, false, false, false, false, false, false, false, false, false, false, false, false, false, false, false, false, false, false, false, false, false, false] rfl rfl (by kernel_rfl) (fun _ _ _ h => h) (Or.inl ⟨by rfl, ?_⟩) ?_ ?_
        rotate_left
        · intro w'
          go_simp
          with_reducible rfl
        rotate_left
        · simp only [Act.put, List.setIfInBounds_toArray, List.set_cons_zero, List.set_cons_succ, i64_w, i32_w]
          rfl
        refine pure_ (i := 8) (N := some 53) (v := ?_) (a' := ?_) #[true, true, true, true, true, false, true, true, true, false, false, false, false, false, false, false, false, false, false, false, false, false, false, false, false, false, false, false, false, false] rfl rfl (by kernel_rfl) (fun _ _ _ h => h) (Or.inl ⟨by rfl, ?_⟩) ?_ ?_
        rotate_left
        · intro w'
          go_simp
          with_reducible rfl
        rotate_left
        · simp only [Act.put, List.setIfInBounds_toArray, List.set_cons_zero, List.set_cons_succ, i64_w, i32_w]
          rfl
        refine pure_ (i := 9) (N := some 54) (v := ?_) (a' := ?_) #[true, true, true, true, true, false, true, true, true, true, false, false, false, false, false, false, false, false, false, false, false, false, false, false, false, false, false, false, false, false] rfl rfl (by kernel_rfl) (fun _ _ _ h => h) (Or.inl ⟨by rfl, ?_⟩) ?_ ?_
        rotate_left
        · intro w'
          go_simp
          with_reducible rfl
        rotate_left
        · simp only [Act.put, List.setIfInBounds_toArray, List.set_cons_zero, List.set_cons_succ, i64_w, i32_w]
          rfl
        refine take_ (i := 10) (N := some 55) (v := ?_) (a' := ?_) #[true, true, true, true, true, false, true, true, true, true, true, false, false, false, false, false, false, false, false, false, false, false, false, false, false, false, false, false, false, false] rfl rfl (by kernel_rfl) (fun _ _ _ h => h) (Or.inl ⟨by rfl, ?_⟩) hHeld ?_ ?_
        rotate_left
        · rintro w' ⟨s0, s1, s2, s3, s4, s5, s6⟩
          go_simp
          with_reducible rfl
        rotate_left
        · simp only [Act.put, List.setIfInBounds_toArray, List.set_cons_zero, List.set_cons_succ, i64_w, i32_w]
          rfl
        refine one_ (i := 5) (N := some 50) #[true, true, true, true, true, true, true, true, true, true, true, false, false, false, false, false, false, false, false, false, false, false, false, false, false, false, false, false, false, false] rfl rfl (by kernel_rfl) (by decide) (fun K hK => ?_)
        refine goes_ Tryd.func13 (by kernel_rfl) rfl #[.pointer (some ⟨a, 0, none⟩), .agg (vcells (rd_T32 l0 (i : Int)))] (by rfl) rfl rfl (by (try simp only [List.map_toArray, List.map_cons, List.map_nil]); first | done | rfl) ?_
        refine (both_decA (rd_T32 l0 (i : Int)) (HI.out.below (Below.refl _ _).drew) (by have := HLn.out; omega)).mono ?_
        rintro e w1 ⟨he, hr⟩
        rw [HCD.out] at he
        subst he
        rw [HLs.out] at hr
        have HI1 := Aside0.mk hr
        clear hr
        refine ⟨_, rfl, ?_⟩
        refine hK.out _ _ (HF w1 (Kd.C_below HR0.out HI1.out.b0)) (fun hHeld => ?_)
        clear hK K
        refine norm_ (a' := ?_) ?_ ?_
        rotate_left
        · show Act.put _ (some 50) _ = _
          simp only [Act.put, List.setIfInBounds_toArray, List.set_cons_zero, List.set_cons_succ, i64_w, i32_w]
          rfl
        refine one_ (i := 11) (N := some 56) #[true, true, true, true, true, true, true, true, true, true, true, true, false, false, false, false, false, false, false, false, false, false, false, false, false, false, false, false, false, false] rfl rfl (by kernel_rfl) (by decide) (fun K hK => ?_)
        refine goes_ Tryd.func14 (by kernel_rfl) rfl #[.pointer (some ⟨b, 0, none⟩), .agg (vcells (rd_T32 l0 (i : Int)))] (by rfl) rfl rfl (by (try simp only [List.map_toArray, List.map_cons, List.map_nil]); first | done | rfl) ?_
        refine (both_decB (rd_T32 l0 (i : Int)) HI1.out HFT.out (by have := HLn.out; omega)).mono ?_
        rintro e w2 ⟨he, hr⟩
        rw [HCD.out] at he
        subst he
        rw [HLs.out] at hr
        have HI2 := Aside0.mk hr
        clear hr
        refine ⟨_, rfl, ?_⟩
        refine hK.out _ _ (HF w2 (Kd.C_below HR0.out HI2.out.b0)) (fun hHeld => ?_)
        clear hK K
        refine norm_ (a' := ?_) ?_ ?_
        rotate_left
        · show Act.put _ (some 56) _ = _
          simp only [Act.put, List.setIfInBounds_toArray, List.set_cons_zero, List.set_cons_succ, i64_w, i32_w]
          rfl
        refine pure_ (i := 12) (N := some 57) (v := ?_) (a' := ?_) #[true, true, true, true, true, true, true, true, true, true, true, true, true, false, false, false, false, false, false, false, false, false, false, false, false, false, false, false, false, false] rfl rfl (by kernel_rfl) (fun _ _ _ h => h) (Or.inl ⟨by rfl, ?_⟩) ?_ ?_
        rotate_left
        · intro w'
          go_simp
          with_reducible rfl
        rotate_left
        · simp only [Act.put, List.setIfInBounds_toArray, List.set_cons_zero, List.set_cons_succ, i64_w, i32_w]
          rfl
        refine pure_ (i := 13) (N := some 58) (v := ?_) (a' := ?_) #[true, true, true, true, true, true, true, true, true, true, true, true, true, true, false, false, false, false, false, false, false, false, false, false, false, false, false, false, false, false] rfl rfl (by kernel_rfl) (fun _ _ _ h => h) (Or.inl ⟨by rfl, ?_⟩) ?_ ?_
        rotate_left
        · intro w'
          go_simp
          with_reducible rfl
        rotate_left
        · simp only [Act.put, List.setIfInBounds_toArray, List.set_cons_zero, List.set_cons_succ, i64_w, i32_w]
          rfl
        refine pure_ (i := 14) (N := some 59) (v := ?_) (a' := ?_) #[true, true, true, true, true, true, true, true, true, true, true, true, true, true, true, false, false, false, false, false, false, false, false, false, false, false, false, false, false, false] rfl rfl (by kernel_rfl) (fun _ _ _ h => h) (Or.inl ⟨by rfl, ?_⟩) ?_ ?_
        rotate_left
        · intro w'
          go_simp
          with_reducible rfl
        rotate_left
        · simp only [Act.put, List.setIfInBounds_toArray, List.set_cons_zero, List.set_cons_succ, i64_w, i32_w]
          rfl
        refine pure_ (i := 15) (N := some 60) (v := ?_) (a' := ?_) #[true, true, true, true, true, true, true, true, true, true, true, true, true, true, true, true, false, false, false, false, false, false, false, false, false, false, false, false, false, false] rfl rfl (by kernel_rfl) (fun _ _ _ h => h) (Or.inl ⟨by rfl, ?_⟩) ?_ ?_
        rotate_left
        · intro w'
          go_simp
          with_reducible rfl
        rotate_left
        · simp only [Act.put, List.setIfInBounds_toArray, List.set_cons_zero, List.set_cons_succ, i64_w, i32_w]
          rfl
        refine pure_ (i := 16) (N := some 61) (v := ?_) (a' := ?_) #[true, true, true, true, true, true, true, true, true, true, true, true, true, true, true, true, true, false, false, false, false, false, false, false, false, false, false, false, false, false] rfl rfl (by kernel_rfl) (fun _ _ _ h => h) (Or.inl ⟨by rfl, ?_⟩) ?_ ?_
        rotate_left
        · intro w'
          go_simp
          with_reducible rfl
        rotate_left
        · simp only [Act.put, List.setIfInBounds_toArray, List.set_cons_zero, List.set_cons_succ, i64_w, i32_w]
          rfl
        refine pure_ (i := 17) (N := some 62) (v := ?_) (a' := ?_) #[true, true, true, true, true, true, true, true, true, true, true, true, true, true, true, true, true, true, false, false, false, false, false, false, false, false, false, false, false, false] rfl rfl (by kernel_rfl) (fun _ _ _ h => h) (Or.inl ⟨by rfl, ?_⟩) ?_ ?_
        rotate_left
        · intro w'
          go_simp
          with_reducible rfl
        rotate_left
        · simp only [Act.put, List.setIfInBounds_toArray, List.set_cons_zero, List.set_cons_succ, i64_w, i32_w]
          rfl
        refine pure_ (i := 18) (N := some 63) (v := ?_) (a' := ?_) #[true, true, true, true, true, true, true, true, true, true, true, true, true, true, true, true, true, true, true, false, false, false, false, false, false, false, false, false, false, false] rfl rfl (by kernel_rfl) (fun _ _ _ h => h) (Or.inl ⟨by rfl, ?_⟩) ?_ ?_
        rotate_left
        · intro w'
          go_simp
          with_reducible rfl
        rotate_left
        · simp only [Act.put, List.setIfInBounds_toArray, List.set_cons_zero, List.set_cons_succ, i64_w, i32_w]
          rfl
        refine take_ (i := 19) (N := some 64) (v := ?_) (a' := ?_) #[true, true, true, true, true, true, true, true, true, true, true, true, true, true, true, true, true, true, true, true, false, false, false, false, false, false, false, false, false, false] rfl rfl (by kernel_rfl) (fun _ _ _ h => h) (Or.inl ⟨by rfl, ?_⟩) hHeld ?_ ?_
        rotate_left
        · rintro w' ⟨s0, s1, s2, s3, s4, s5, s6⟩
          go_simp
          with_reducible rfl
        rotate_left
        · simp only [Act.put, List.setIfInBounds_toArray, List.set_cons_zero, List.set_cons_succ, i64_w, i32_w]
          rfl
        refine pure_ (i := 21) (N := some 66) (v := ?_) (a' := ?_) #[true, true, true, true, true, true, true, true, true, true, true, true, true, true, true, true, true, true, true, true, false, true, false, false, false, false, false, false, false, false] rfl rfl (by kernel_rfl) (fun _ _ _ h => h) (Or.inl ⟨by rfl, ?_⟩) ?_ ?_
        rotate_left
        · intro w'
          go_simp
          with_reducible rfl
        rotate_left
        · simp only [Act.put, List.setIfInBounds_toArray, List.set_cons_zero, List.set_cons_succ, i64_w, i32_w]
          rfl
        refine pure_ (i := 22) (N := some 67) (v := ?_) (a' := ?_) #[true, true, true, true, true, true, true, true, true, true, true, true, true, true, true, true, true, true, true, true, false, true, true, false, false, false, false, false, false, false] rfl rfl (by kernel_rfl) (fun _ _ _ h => h) (Or.inl ⟨by rfl, ?_⟩) ?_ ?_
        rotate_left
        · intro w'
          go_simp
          with_reducible rfl
        rotate_left
        · simp only [Act.put, List.setIfInBounds_toArray, List.set_cons_zero, List.set_cons_succ, i64_w, i32_w]
          rfl
        refine pure_ (i := 23) (N := some 68) (v := ?_) (a' := ?_) #[true, true, true, true, true, true, true, true, true, true, true, true, true, true, true, true, true, true, true, true, false, true, true, true, false, false, false, false, false, false] rfl rfl (by kernel_rfl) (fun _ _ _ h => h) (Or.inl ⟨by rfl, ?_⟩) ?_ ?_
        rotate_left
        · intro w'
          go_simp
          with_reducible rfl
        rotate_left
        · simp only [Act.put, List.setIfInBounds_toArray, List.set_cons_zero, List.set_cons_succ, i64_w, i32_w]
          rfl
        refine pure_ (i := 24) (N := some 69) (v := ?_) (a' := ?_) #[true, true, true, true, true, true, true, true, true, true, true, true, true, true, true, true, true, true, true, true, false, true, true, true, true, false, false, false, false, false] rfl rfl (by kernel_rfl) (fun _ _ _ h => h) (Or.inl ⟨by rfl, ?_⟩) ?_ ?_
        rotate_left
        · intro w'
          go_simp
          with_reducible rfl
        rotate_left
        · simp only [Act.put, List.setIfInBounds_toArray, List.set_cons_zero, List.set_cons_succ, i64_w, i32_w]
          rfl
        refine pure_ (i := 25) (N := some 70) (v := ?_) (a' := ?_) #[true, true, true, true, true, true, true, true, true, true, true, true, true, true, true, true, true, true, true, true, false, true, true, true, true, true, false, false, false, false] rfl rfl (by kernel_rfl) (fun _ _ _ h => h) (Or.inl ⟨by rfl, ?_⟩) ?_ ?_
        rotate_left
        · intro w'
          go_simp
          with_reducible rfl
        rotate_left
        · simp only [Act.put, List.setIfInBounds_toArray, List.set_cons_zero, List.set_cons_succ, i64_w, i32_w]
          rfl
        refine take_ (i := 26) (N := some 71) (v := ?_) (a' := ?_) #[true, true, true, true, true, true, true, true, true, true, true, true, true, true, true, true, true, true, true, true, false, true, true, true, true, true, true, false, false, false] rfl rfl (by kernel_rfl) (fun _ _ _ h => h) (Or.inl ⟨by rfl, ?_⟩) hHeld ?_ ?_
        rotate_left
        · rintro w' ⟨s0, s1, s2, s3, s4, s5, s6⟩
          go_simp
          with_reducible rfl
        rotate_left
        · simp only [Act.put, List.setIfInBounds_toArray, List.set_cons_zero, List.set_cons_succ, i64_w, i32_w]
          rfl
        refine one_ (i := 20) (N := some 65) #[true, true, true, true, true, true, true, true, true, true, true, true, true, true, true, true, true, true, true, true, true, true, true, true, true, true, true, false, false, false] rfl rfl (by kernel_rfl) (by decide) (fun K hK => ?_)
        refine goes_ Tryd.func15 (by kernel_rfl) rfl #[.pointer (some ⟨a, 0, none⟩), .string (rd_T32 l0 (i : Int)).f0] (by rfl) rfl rfl (by (try simp only [List.map_toArray, List.map_cons, List.map_nil]); first | done | rfl) ?_
        refine (both_stA (rd_T32 l0 (i : Int)).f0 HI2.out HFT.out.1).mono ?_
        rintro e w3 ⟨he, hb⟩
        rw [HSB.out] at he
        subst he
        have HI3 := Aside0.mk (HI2.out.below hb)
        clear hb
        refine ⟨_, rfl, ?_⟩
        refine hK.out _ _ (HF w3 (Kd.C_below HR0.out HI3.out.b0)) (fun hHeld => ?_)
        clear hK K
        refine norm_ (a' := ?_) ?_ ?_
        rotate_left
        · show Act.put _ (some 65) _ = _
          simp only [Act.put, List.setIfInBounds_toArray, List.set_cons_zero, List.set_cons_succ, i64_w, i32_w]
          rfl
        refine one_ (i := 27) (N := some 72) #[true, true, true, true, true, true, true, true, true, true, true, true, true, true, true, true, true, true, true, true, true, true, true, true, true, true, true, true, false, false] rfl rfl (by kernel_rfl) (by decide) (fun K hK => ?_)
        refine goes_ Tryd.func16 (by kernel_rfl) rfl #[.pointer (some ⟨b, 0, none⟩), .string (rd_T32 l0 (i : Int)).f0] (by rfl) rfl rfl (by (try simp only [List.map_toArray, List.map_cons, List.map_nil]); first | done | rfl) ?_
        refine (both_stB (rd_T32 l0 (i : Int)).f0 HI3.out (by have := HLm.out; omega)).mono ?_
        rintro e w4 ⟨he, hb⟩
        rw [HSB.out] at he
        subst he
        have HI4 := Aside0.mk (HI3.out.below hb)
        clear hb
        refine ⟨_, rfl, ?_⟩
        refine hK.out _ _ (HF w4 (Kd.C_below HR0.out HI4.out.b0)) (fun hHeld => ?_)
        clear hK K
        refine norm_ (a' := ?_) ?_ ?_
        rotate_left
        · show Act.put _ (some 72) _ = _
          simp only [Act.put, List.setIfInBounds_toArray, List.set_cons_zero, List.set_cons_succ, i64_w, i32_w]
          rfl
        refine pure_ (i := 28) (N := some 73) (v := ?_) (a' := ?_) #[true, true, true, true, true, true, true, true, true, true, true, true, true, true, true, true, true, true, true, true, true, true, true, true, true, true, true, true, true, false] rfl rfl (by kernel_rfl) (fun _ _ _ h => h) (Or.inl ⟨by rfl, ?_⟩) ?_ ?_
        rotate_left
        · intro w'
          go_simp
          with_reducible rfl
        rotate_left
        · simp only [Act.put, List.setIfInBounds_toArray, List.set_cons_zero, List.set_cons_succ, i64_w, i32_w]
          rfl
        refine pure_ (i := 29) (N := some 74) (v := ?_) (a' := ?_) #[true, true, true, true, true, true, true, true, true, true, true, true, true, true, true, true, true, true, true, true, true, true, true, true, true, true, true, true, true, true] rfl rfl (by kernel_rfl) (fun _ _ _ h => h) (Or.inl ⟨by rfl, ?_⟩) ?_ ?_
        rotate_left
        · intro w'
          go_simp
          with_reducible rfl
        rotate_left
        · simp only [Act.put, List.setIfInBounds_toArray, List.set_cons_zero, List.set_cons_succ, i64_w, i32_w]
          rfl
        refine done_ (by kernel_rfl) ?_
        refine ex_gen (fun V => V = w4) rfl ?_
        rintro V rfl
        obtain ⟨x0, x1, x2, x3, x4, x5, x6⟩ := HF V (Kd.C_below HR0.out HI4.out.b0)
        go_wp2
        have hv : ∀ n : Nat, Calls Tryd.prog 17 #[.pointer (some ⟨a, 0, none⟩), .string (rd_T32 l0 (i : Int)).f1, .string (rd_T32 l0 (i : Int)).f2] (V.drewN n) fun e w' => e = .returned (.tuple #[.int .i64 nv, .bool sv]) ∧ w' = V.drewN n := fun n => by
          have := both_valA (rd_T32 l0 (i : Int)).f1 (rd_T32 l0 (i : Int)).f2 (HI4.out.below (pw_below_drewN (Below.refl _ _) n)) HFT.out.2.1 HFT.out.2.2.1
          rw [HVL.out] at this
          exact this
        go_quiet ((go_at_call 17; exact Calls.quiet_of_same (hv _)))
        clear hv x0 x1 x2 x3 x4 x5 x6
        refine ex_gen (fun W => Below V.heap.size V W) (pw_below_drewN (Below.refl _ _) _) ?_
        rintro W hW
        have HI5 := Aside0.mk (HI4.out.below hW)
        clear hW HI4
        obtain ⟨x0, x1, x2, x3, x4, x5, x6⟩ := HF W (Kd.C_below HR0.out HI5.out.b0)
        go_wp2
        have hv : ∀ n : Nat, Calls Tryd.prog 18 #[.pointer (some ⟨b, 0, none⟩), .string (rd_T32 l0 (i : Int)).f1, .string (rd_T32 l0 (i : Int)).f2] (W.drewN n) fun e w' => e = .returned (.tuple #[.int .i64 nv, .bool sv]) ∧ w' = W.drewN n := fun n => by
          have := both_valB (rd_T32 l0 (i : Int)).f1 (rd_T32 l0 (i : Int)).f2 (HI5.out.below (pw_below_drewN (Below.refl _ _) n)) (by have := HLm.out; omega)
          rw [HVL.out] at this
          exact this
        go_quiet ((go_at_call 18; exact Calls.quiet_of_same (hv _)))
        clear hv x0 x1 x2 x3 x4 x5 x6
        go_wp2
        go_roundg g
        case measure => exact Nat.lt_succ_self g
        case rel => exact ⟨i + 1, by first | rfl | go_num | (simp; done), by have := HLT.out; omega, ⟨by have := HG.out; have := HLT.out; omega⟩, ⟨by rw [HNX.out, HLs.out]; exact HI5.out.below (by repeat (first | exact Below.refl _ _ | apply below_drew1 | apply pw_below_drewN))⟩⟩
      · have e2 : decide ((i : Int) < (l0.length : Int)) = false := decide_eq_false (by omega)
        have e3 : decide (i < l0.length) = false := decide_eq_false (by omega)
        obtain rfl : i = l0.length := by omega
        obtain ⟨L, hL⟩ : ∃ L, l0.foldl step [] = L := ⟨_, rfl⟩
        have HLn : Aside0 (L.length ≤ 60) := ⟨by have h1 := fold_len l0 []; rw [hL] at h1; simp only [List.length_nil] at h1; have := HL60.out; omega⟩
        have HI5 : Aside0 (Both w wr a b L L) := ⟨by have h := HI.out; rw [List.take_length, hL] at h; exact h⟩
        obtain ⟨nv, sv, hval⟩ : ∃ nv sv, val L a1 a2 = (nv, sv) := ⟨_, _, rfl⟩
        have HVL := Aside0.mk hval
        obtain ⟨sb, hsb⟩ : ∃ sb, st L a3 = sb := ⟨_, rfl⟩
        have HSB := Aside0.mk hsb
        have hq2 : (sb == sb) = true := beq_iff_eq.2 rfl
        have hq3 : (nv == nv) = true := beq_iff_eq.2 rfl
        have hq4 : (sv == sv) = true := beq_iff_eq.2 rfl
        clear hlt HI HG hL hval hsb
        go_wp2_with (first | (go_at_call 17; go_loud (refine (both_valA a1 a2 HI5.out HS1.out HS2.out).mono ?_; rintro e w6 ⟨he, rfl⟩; rw [HVL.out] at he; subst he)) | (go_at_call 18; go_loud (refine (both_valB a1 a2 HI5.out (by have := HLn.out; omega)).mono ?_; rintro e w6 ⟨he, rfl⟩; rw [HVL.out] at he; subst he)) | (go_at_call 15; go_loud (refine (both_stA a3 HI5.out HS3.out).mono ?_; rintro e w6 ⟨he, hb⟩; rw [HSB.out] at he; subst he; have HI6 := Aside0.mk (HI5.out.below hb); clear hb HI5)) | (go_at_call 16; go_loud (refine (both_stB a3 HI6.out (by have := HLn.out; omega)).mono ?_; rintro e w7 ⟨he, hb⟩; rw [HSB.out] at he; subst he; have HI7 := Aside0.mk (HI6.out.below hb); clear hb HI6)) | (go_at_call 20; go_loud (refine (both_listA HI7.out (by have := HLn.out; omega)).mono ?_; rintro e w8 ⟨A1, c1, rfl, hC, hc, hb⟩; have HC1 := Aside0.mk hC; have HD1 := Aside0.mk hc; have HI8 := Aside0.mk (HI7.out.below hb); clear hC hc hb HI7)) | (go_at_call 21; go_loud (refine (both_listB HI8.out (by have := HLn.out; omega)).mono ?_; rintro e w9 ⟨A2, c2, rfl, hC, hc, rfl⟩; have HC2 := Aside0.mk hC; have HD2 := Aside0.mk hc; clear hC hc)) | (go_at_call 19; go_loud (refine (same_calls A1 A2 c1 c2 L _ HC1.out HD1.out HC2.out HD2.out).mono ?_; rintro e w9 ⟨rfl, hb⟩; have HI9 := Aside0.mk (HI8.out.below hb); clear hb)))
        go_ret
        exact ⟨rfl, HI9.out.b0⟩
end Go.Proofs.YtbmmedoopjjbkaaDoor.Fin
