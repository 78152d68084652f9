/- The pure statement of LexerGaps: gaps and a line feed before, after and between tokens change no token but its place. -/
import Derived.Test.YtjcleemflenaoaaDoorLexPure2
import Derived.Test.YtjcleemflenaoaaDoorLexCmp
import Derived.Test.YtjcleemflenaoaaDoorLexGap
import Derived.Test.YtjcleemflenaoaaDoorH11
namespace Go.Proofs.YtjcleemflenaoaaDoor.Pure
open Go.RowKit Go.Proofs.YtjcleemflenaoaaDoor.H Go.Proofs.YtjcleemflenaoaaDoorW.PrintWords Go.Proofs.YtjcleemflenaoaaDoorW.PrintLast

theorem core_place (p q : Nat) (l : List UInt8) : (Lex.lx p l).map Lex.core = (Lex.lx q l).map Lex.core := by
  have h : ∀ p, (Lex.lx p l).map Lex.core = (Lex.lx 0 l).map Lex.core := by
    intro p
    rw [Lex.lx_zero p l, List.map_map]
    rfl
  rw [h p, h q]
theorem gap_line {G : List UInt8} (hG : Lex.lx 0 G = []) (p : Nat) (c : List UInt8) : Lex.lx p (G ++ 10 :: c) = Lex.lx (p + G.length + 1) c := by
  have h0 : Lex.lx p G = [] := by rw [Lex.lx_zero p G, hG]; rfl
  rw [Lex.lx_nl_ok c p G (by rw [h0]; simp), h0, List.nil_append]
theorem gap_sep {G : List UInt8} (hG : Lex.lx 0 G = []) (c : List UInt8) : Lex.Sep (G ++ 10 :: c) := by
  cases G with
  | nil => exact Lex.sep_nl c
  | cons z t =>
    show Lex.cls z = 1 ∨ Lex.cls z = 2
    by_cases h1 : Lex.cls z = 1
    · exact .inl h1
    · by_cases h2 : Lex.cls z = 2
      · exact .inr h2
      · exact absurd hG (LexGap.E_tok h1 h2)
theorem gaps_core {T G : List UInt8} {xs : List Lex.Fd} (hl : Lex.lx 0 T = xs) (hok : ∀ f ∈ xs, f.err = 0) (hG : Lex.lx 0 G = []) (m : Nat)
    (hm : m = 0 ∨ ∃ pre x post, xs = pre ++ x :: post ∧ m = x.pos + x.text.length) :
    (Lex.lx 0 (G ++ 10 :: (T.take m ++ (G ++ 10 :: (T.drop m ++ 10 :: G))))).map Lex.core = xs.map Lex.core := by
  have hend : ∀ p (v : List UInt8), (∀ f ∈ Lex.lx 0 v, f.err = 0) → (Lex.lx p (v ++ 10 :: G)).map Lex.core = (Lex.lx 0 v).map Lex.core := by
    intro p v hv
    have hv' : ∀ f ∈ Lex.lx p v, f.err = 0 := by
      intro f hf
      rw [Lex.lx_zero p v, List.mem_map] at hf
      obtain ⟨g, hg, rfl⟩ := hf
      exact hv g hg
    have h0 : Lex.lx (p + v.length + 1) G = [] := by rw [Lex.lx_zero, hG]; rfl
    rw [Lex.lx_nl_ok G p v hv', h0, List.append_nil]
    exact core_place p 0 v
  rw [gap_line hG]
  rcases hm with rfl | ⟨pre, x, post, hx, rfl⟩
  · rw [List.take_zero, List.drop_zero, List.nil_append, gap_line hG, hend _ T (by rw [hl]; exact hok), hl]
  · obtain ⟨-, h2, -, h4, h5⟩ := Lex.lx_split 0 T pre x post (by rw [hl, hx]) (hok x (by rw [hx]; simp))
    rw [Nat.sub_zero] at h4 h5
    rw [Nat.zero_add] at h2
    have hpre : ∀ f ∈ pre ++ [x], f.err = 0 := by
      intro f hf
      apply hok f
      rw [hx]
      rcases List.mem_append.1 hf with h | h
      · exact List.mem_append.2 (.inl h)
      · rw [List.mem_singleton.1 h]; simp
    have hpost : ∀ f ∈ post, f.err = 0 := fun f hf => hok f (by rw [hx]; simp [hf])
    have hlen : (T.take (x.pos + x.text.length)).length = x.pos + x.text.length := by rw [List.length_take]; omega
    have hshift : Lex.lx (0 + G.length + 1) (T.take (x.pos + x.text.length)) = pre.map (Lex.shift (0 + G.length + 1)) ++ [Lex.shift (0 + G.length + 1) x] := by
      rw [Lex.lx_zero, h4, List.map_append]; rfl
    have hs := Lex.lx_sep (gap_sep hG (T.drop (x.pos + x.text.length) ++ 10 :: G)) (0 + G.length + 1) (T.take (x.pos + x.text.length)) _ _ hshift
      (by
        intro f hf
        rw [hshift, ← List.map_singleton, ← List.map_append, List.mem_map] at hf
        obtain ⟨g, hg, rfl⟩ := hf
        exact hpre g hg)
      (by rw [hlen]; simp only [Lex.shift]; omega)
    rw [hs, List.map_append, core_place _ 0, h4, gap_line hG]
    have hd : Lex.lx 0 (T.drop (x.pos + x.text.length)) = Lex.lx 0 (T.drop (x.pos + x.text.length)) := rfl
    have hv : ∀ f ∈ Lex.lx 0 (T.drop (x.pos + x.text.length)), f.err = 0 := by
      intro f hf
      have : Lex.shift (x.pos + x.text.length) f ∈ Lex.lx (x.pos + x.text.length) (T.drop (x.pos + x.text.length)) := by
        rw [Lex.lx_zero (x.pos + x.text.length)]; exact List.mem_map_of_mem hf
      rw [h5] at this
      exact (hpost (Lex.shift (x.pos + x.text.length) f) this : (Lex.shift (x.pos + x.text.length) f).err = 0)
    rw [hend _ _ hv, core_place 0 (x.pos + x.text.length), h5, hx, ← List.map_append]
    simp

theorem LexerGaps : pandectlaw05_LexerGaps.Pure := by
  intro s g n _ _ hn
  refine ⟨6000 + 3, ?_⟩
  have hz : (⟨#[10]⟩ : ByteArray).size = 1 := rfl
  have hn' : 0 ≤ n ∧ n ≤ 65535 := by
    have h := hn
    simp only [Lit.wf] at h
    have h2 : IntKind.u16.min ≤ n ∧ n ≤ IntKind.u16.max := by simpa using h
    exact ⟨h2.1, h2.2⟩
  unfold pandectlaw05_LexerGaps.f
  rw [LexHead.head]
  simp only [Option.bind_some]
  have hno : ∀ k, pandectlaw05_LexerGaps.j0 (k + 1) s g n true true = some true := by
    intro k
    simp only [pandectlaw05_LexerGaps.j0, if_true]
  by_cases hs : (s.size : Int) > 1500
  · rw [if_pos hs]; exact hno _
  rw [if_neg hs]
  by_cases hg : (g.size : Int) > 300
  · rw [if_pos hg]; exact hno _
  rw [if_neg hg]
  obtain ⟨b, hb, hbG⟩ := LexGap.gaps_f g (by omega) (6000 + 3) (by omega)
  rw [hb]
  simp only [Option.bind_some]
  rcases hbb : b with _ | _
  · exact hno _
  have hG := hbG.1 hbb
  show pandectlaw05_LexerGaps.j0 (6000 + 2 + 1) s g n true false = some true
  simp only [pandectlaw05_LexerGaps.j0]
  rw [if_neg (by decide)]
  have hsn : s.data.toList.length = s.size := Array.length_toList
  have hgn : g.data.toList.length = g.size := Array.length_toList
  obtain ⟨xs, hok, hl, e⟩ | ⟨pre, x, hp, hx, hl, e⟩ := LexHead.cases s (by omega)
  rotate_left
  · rw [e]
    simp only [Option.bind_some]
    rw [if_neg hx]
  rw [e]
  simp only [Option.bind_some, if_true, List.length_map]
  have hxl : xs.length ≤ 1500 := by have := Lex.lx_len 0 s.data.toList; rw [hl] at this; omega
  have step : ∀ m : Nat, m ≤ s.size → (m = 0 ∨ ∃ pre x post, xs = pre ++ x :: post ∧ m = x.pos + x.text.length) → pandectlaw05_LexerGaps.j1 (6000 + 1 + 1) s g true (xs.map lexer_Lex.toS) (m : Int) = some true := by
    intro m hm0 hm
    simp only [pandectlaw05_LexerGaps.j1]
    rw [if_neg (by omega), decide_eq_false (by omega)]
    simp only [pandectlaw05_LexerGaps.j2]
    rw [if_neg (by decide)]
    have hcore := gaps_core hl hok hG m hm
    have hdat : ((((((g ++ (⟨#[10]⟩ : ByteArray)) ++ (s.extract 0 (m : Int).toNat)) ++ (g ++ (⟨#[10]⟩ : ByteArray))) ++ (s.extract (m : Int).toNat s.size)) ++ (⟨#[10]⟩ : ByteArray)) ++ g).data.toList = g.data.toList ++ 10 :: (s.data.toList.take m ++ (g.data.toList ++ 10 :: (s.data.toList.drop m ++ 10 :: g.data.toList))) := by
      have h10 : (⟨#[10]⟩ : ByteArray).data.toList = [10] := rfl
      simp only [LexHead.data_app, Lib.extract_data, Int.toNat_natCast, List.drop_zero, Nat.sub_zero, List.append_assoc, List.cons_append, List.nil_append]
      rw [List.take_of_length_le (by rw [List.length_drop]; omega : (s.data.toList.drop m).length ≤ s.size - m)]
    rw [← hdat] at hcore
    have hsz : ((((((g ++ (⟨#[10]⟩ : ByteArray)) ++ (s.extract 0 (m : Int).toNat)) ++ (g ++ (⟨#[10]⟩ : ByteArray))) ++ (s.extract (m : Int).toNat s.size)) ++ (⟨#[10]⟩ : ByteArray)) ++ g).data.toList.length ≤ 5000 := by
      rw [hdat]
      simp only [List.length_append, List.length_cons, List.length_take, List.length_drop]
      omega
    generalize hF : ((((((g ++ (⟨#[10]⟩ : ByteArray)) ++ (s.extract 0 (m : Int).toNat)) ++ (g ++ (⟨#[10]⟩ : ByteArray))) ++ (s.extract (m : Int).toNat s.size)) ++ (⟨#[10]⟩ : ByteArray)) ++ g) = F at hcore hsz
    have hok2 : ∀ f ∈ Lex.lx 0 F.data.toList, f.err = 0 := by
      intro f hf
      obtain ⟨j, hj⟩ := List.mem_iff_getElem?.1 hf
      obtain ⟨y, hy, hcy⟩ := LexHead.core_at hcore hj
      have h0 := hok y (List.mem_iff_getElem?.2 ⟨j, hy⟩)
      have := congrArg (fun z => z.2.2.2) hcy
      exact this.trans h0
    have e3 := LexHead.ok F hsz rfl hok2
    have ez : ∀ a b : Nat, (s.extract a b).size = min b s.size - a := fun a b => by rw [ByteArray.size_extract]
    rw [if_pos (by omega), if_pos (by omega), if_pos (by omega)]
    rw [if_pos (by simp only [ByteArray.size_append, ez, hz]; omega), if_pos (by simp only [ByteArray.size_append, ez, hz]; omega), if_pos (by simp only [ByteArray.size_append, ez, hz]; omega), if_pos (by simp only [ByteArray.size_append, ez, hz]; omega), if_pos (by simp only [ByteArray.size_append, ez, hz]; omega)]
    rw [e3]
    simp only [Option.bind_some, if_true]
    rw [LexHead.alike_of_core hcore.symm (by omega) 6000 (by omega)]
    rfl
  by_cases hx0 : (xs.length : Int) > 0
  · rw [if_pos hx0, if_neg (by omega)]
    have hw : wrap64 n = n := LexHead.wrap_id (by omega) (by omega)
    have ht : ∃ j : Nat, Int.tmod (wrap64 n) (xs.length : Int) = (j : Int) ∧ j < xs.length := by
      rw [hw]
      refine ⟨n.toNat % xs.length, ?_, Nat.mod_lt _ (by omega)⟩
      obtain ⟨q, rfl⟩ : ∃ q : Nat, n = (q : Int) := ⟨n.toNat, by omega⟩
      rw [Int.toNat_natCast]
      rfl
    obtain ⟨j, hj, hjl⟩ := ht
    rw [hj, if_pos (by omega), if_pos (by omega)]
    have hgx : xs[j]? = some xs[j] := List.getElem?_eq_getElem hjl
    rw [LexHead.rd_map xs j _ hgx]
    have hsplit : xs = xs.take j ++ xs[j] :: xs.drop (j + 1) := by
      rw [← List.drop_eq_getElem_cons hjl, List.take_append_drop]
    have herr : (xs[j]).err = 0 := hok _ (List.getElem_mem hjl)
    obtain ⟨-, h2, -, -, -⟩ := Lex.lx_split 0 s.data.toList (xs.take j) xs[j] (xs.drop (j + 1)) (by rw [hl]; exact hsplit) herr
    have hf3 : (lexer_Lex.toS xs[j]).f3 + ((lexer_Lex.toS xs[j]).f1.size : Int) = (((xs[j]).pos + (xs[j]).text.length : Nat) : Int) := by
      have : (lexer_Lex.toS xs[j]).f1.size = (xs[j]).text.length := by
        show (⟨(xs[j]).text.toArray⟩ : ByteArray).size = _
        rw [Lib.size_eq]
      rw [this]
      show ((xs[j]).pos : Int) + _ = _
      omega
    rw [hf3, LexHead.wrap_id (by omega) (by omega)]
    exact step _ (by omega) (.inr ⟨_, _, _, hsplit, rfl⟩)
  · rw [if_neg hx0]
    exact step 0 (by omega) (.inl rfl)
end Go.Proofs.YtjcleemflenaoaaDoor.Pure
