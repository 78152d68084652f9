/- The pure statement of LexerAgain: tokens written with one blank after each have the same tokens. -/
import Derived.Test.YtjcleemflenaoaaDoorLexCmp
namespace Go.Proofs.YtjcleemflenaoaaDoor.Pure
open Go.RowKit Go.Proofs.YtjcleemflenaoaaDoor.H Go.Proofs.YtjcleemflenaoaaDoorW.PrintWords Go.Proofs.YtjcleemflenaoaaDoorW.PrintLast

theorem size_data (s : ByteArray) : s.size = s.data.toList.length := by rw [Array.length_toList]; rfl
theorem written_loop (xs : List Lex.Fd) (hn : xs.length ≤ 100000) : ∀ (d k i : Nat) (acc : ByteArray), xs.length - i = d → i ≤ xs.length → d < k → acc.size + (Lex.wr 32 (xs.drop i)).length ≤ 1000000 →
    ∃ t, pandectlaw05_written.l0 k (xs.map lexer_Lex.toS) acc (i : Int) = some t ∧ t.data.toList = acc.data.toList ++ Lex.wr 32 (xs.drop i) := by
  intro d
  induction d with
  | zero =>
    intro k i acc hd hi hk hz
    obtain ⟨k, rfl⟩ : ∃ m, k = m + 1 := ⟨k - 1, by omega⟩
    refine ⟨acc, ?_, ?_⟩
    · simp only [pandectlaw05_written.l0]
      rw [if_neg (by rw [List.length_map]; omega)]
    · rw [List.drop_eq_nil_of_le (by omega)]; simp [Lex.wr]
  | succ d ih =>
    intro k i acc hd hi hk hz
    obtain ⟨k, rfl⟩ : ∃ m, k = m + 1 := ⟨k - 1, by omega⟩
    have hlt : i < xs.length := by omega
    have hdrop := List.drop_eq_getElem_cons hlt
    rw [hdrop, Lex.wr, List.length_append, List.length_cons] at hz
    have hrd := LexHead.rd_map xs i xs[i] (List.getElem?_eq_getElem hlt)
    have hf1 : ((lexer_Lex.toS xs[i]).f1).size = xs[i].text.length := by rw [size_data]; simp [lexer_Lex.toS]
    have hsz : (((lexer_Lex.toS xs[i]).f1) ++ (⟨#[32]⟩ : ByteArray)).size = xs[i].text.length + 1 := by rw [ByteArray.size_append, hf1]; rfl
    obtain ⟨t, h1, h2⟩ := ih k (i + 1) (acc ++ (((lexer_Lex.toS xs[i]).f1) ++ (⟨#[32]⟩ : ByteArray))) (by omega) (by omega) (by omega) (by rw [ByteArray.size_append, hsz]; omega)
    refine ⟨t, ?_, ?_⟩
    · simp only [pandectlaw05_written.l0]
      rw [if_pos (by rw [List.length_map]; omega), if_pos (by omega), hrd, if_pos (by rw [hf1]; omega), if_pos (by rw [hsz]; omega), LexHead.wrap_id (by omega) (by omega)]
      exact h1
    · rw [h2, LexHead.data_app, LexHead.data_app, hdrop, Lex.wr, List.append_assoc, List.append_assoc]; rfl

theorem LexerAgain : pandectlaw05_LexerAgain.Pure := by
  intro s _
  refine ⟨5000, ?_⟩
  unfold pandectlaw05_LexerAgain.f
  rw [LexHead.head]
  simp only [Option.bind_some]
  by_cases hs : (s.size : Int) > 2000
  · rw [if_pos hs]
  · rw [if_neg hs]
    have hsn : s.data.toList.length = s.size := Array.length_toList
    obtain ⟨xs, hok, hl, e⟩ | ⟨pre, x, hp, hx, hl, e⟩ := LexHead.cases s (by omega)
    · have hxl : xs.length ≤ 2000 := by have := Lex.lx_len 0 s.data.toList; rw [hl] at this; omega
      have hby := Lex.lx_bytes 0 s.data.toList (by rw [hl]; exact hok)
      rw [hl] at hby
      have hwl := Lex.wr_len 32 xs
      rw [Lex.sum_succ] at hwl
      have htok : ∀ x ∈ xs, Lex.IsTok x := by intro x hx; exact Lex.lx_isTok 0 s.data.toList x (by rw [hl]; exact hx) (hok x hx)
      obtain ⟨t, h1, h2⟩ := written_loop xs (by omega) xs.length 5000 0 ⟨#[]⟩ (by omega) (by omega) (by omega) (by rw [List.drop_zero]; show 0 + _ ≤ _; omega)
      rw [List.drop_zero] at h2
      have h2' : t.data.toList = Lex.wr 32 xs := by rw [h2]; rfl
      have hc := Lex.lx_wr (z := 32) (by decide) xs 0 htok
      rw [← h2'] at hc
      have hok2 : ∀ f ∈ Lex.lx 0 t.data.toList, f.err = 0 := by
        intro f hf
        obtain ⟨j, hj⟩ := List.mem_iff_getElem?.1 hf
        obtain ⟨y, hy, hcy⟩ := LexHead.core_at hc hj
        have h0 := hok y (List.mem_iff_getElem?.2 ⟨j, hy⟩)
        have := congrArg (fun z => z.2.2.2) hcy
        exact this.trans h0
      have e3 := LexHead.ok t (by rw [h2', hwl]; omega) rfl hok2
      rw [e]
      simp only [Option.bind_some, if_true]
      unfold pandectlaw05_written.f
      have h1' : pandectlaw05_written.l0 5000 (xs.map lexer_Lex.toS) ⟨#[]⟩ 0 = some t := h1
      rw [h1']
      simp only [Option.bind_some]
      rw [e3]
      simp only [Option.bind_some, if_true]
      rw [LexHead.alike_of_core hc.symm (by omega) 5000 (by omega)]
      rfl
    · rw [e]
      simp only [Option.bind_some]
      rw [if_neg hx]
end Go.Proofs.YtjcleemflenaoaaDoor.Pure
