/- What Lex answers at short texts; the laws' common examples. -/
import Derived.Test.YtjcleemflenaoaaDoorLexPure
import Derived.Test.YtjcleemflenaoaaDoorLexMain
import Derived.Test.YtjcleemflenaoaaDoorH2
namespace Go.Proofs.YtjcleemflenaoaaDoor.LexHead
open Go.RowKit Go.Proofs.YtjcleemflenaoaaDoor.H Go.Proofs.YtjcleemflenaoaaDoorW.PrintWords Go.Proofs.YtjcleemflenaoaaDoorW.PrintLast

theorem head : pandectlaw05_head.f = some true := by
  unfold pandectlaw05_head.f
  simp only [Lib.toList_data]
  decide +kernel

theorem val (s : ByteArray) (h : s.data.toList.length ≤ 5000) : lexer_Lex.f s = some ((Lex.run [] (Lex.lx 0 s.data.toList)).1.map lexer_Lex.toS, (Lex.run [] (Lex.lx 0 s.data.toList)).2.1, (Lex.run [] (Lex.lx 0 s.data.toList)).2.2) := by
  unfold lexer_Lex.f Lex.lex
  rw [if_neg (by omega)]
  rfl
theorem ok (s : ByteArray) (h : s.data.toList.length ≤ 5000) {xs : List Lex.Fd} (e : Lex.lx 0 s.data.toList = xs) (hx : ∀ f ∈ xs, f.err = 0) : lexer_Lex.f s = some (xs.map lexer_Lex.toS, 0, 0) := by
  have hl := Lex.lx_len 0 s.data.toList
  rw [val s h, e, Lex.run_done xs hx (by rw [← e]; omega)]
theorem bad (s : ByteArray) (h : s.data.toList.length ≤ 5000) (pre : List Lex.Fd) (x : Lex.Fd) (hp : ∀ f ∈ pre, f.err = 0) (hx : x.err ≠ 0) (e : Lex.lx 0 s.data.toList = pre ++ [x]) : lexer_Lex.f s = some ([], x.err, (x.pos : Int)) := by
  have hl := Lex.lx_len 0 s.data.toList
  rw [e, List.length_append] at hl
  simp only [List.length_cons, List.length_nil] at hl
  rw [val s h, e, Lex.run_stop (pre := pre ++ [x]) ⟨pre, x, rfl, hp, by omega, .inl ⟨hx, rfl⟩, rfl⟩ (List.prefix_refl _)]
  rfl
/-- Without an error, or with one: the last one. -/
theorem split : ∀ (p : Nat) (l : List UInt8), (∀ f ∈ Lex.lx p l, f.err = 0) ∨ ∃ pre x, (∀ f ∈ pre, f.err = 0) ∧ x.err ≠ 0 ∧ Lex.lx p l = pre ++ [x] := by
  refine Lex.lx_ind ?_ ?_ ?_ ?_ ?_
  · intro p; left; intro f hf; rw [Lex.lx_nil] at hf; simp at hf
  · intro p b t h1 ih; rw [Lex.lx_blank h1]; exact ih
  · intro p b t h2 ih; rw [Lex.lx_hash h2]; exact ih
  · intro p b t h1 h2 he ih
    rw [Lex.lx_tok h1 h2, if_pos he]
    rcases ih with ih | ⟨pre, x, hp, hx, e⟩
    · left
      intro f hf
      rcases List.mem_cons.1 hf with rfl | hf
      · exact he
      · exact ih f hf
    · right
      refine ⟨Lex.tok1 p b t :: pre, x, ?_, hx, by rw [e]; rfl⟩
      intro f hf
      rcases List.mem_cons.1 hf with rfl | hf
      · exact he
      · exact hp f hf
  · intro p b t h1 h2 he
    right
    rw [Lex.lx_tok h1 h2, if_neg he]
    exact ⟨[], _, by simp, he, rfl⟩
theorem cases (s : ByteArray) (h : s.data.toList.length ≤ 5000) :
    (∃ xs, (∀ f ∈ xs, f.err = 0) ∧ Lex.lx 0 s.data.toList = xs ∧ lexer_Lex.f s = some (xs.map lexer_Lex.toS, 0, 0)) ∨
    ∃ pre x, (∀ f ∈ pre, f.err = 0) ∧ x.err ≠ 0 ∧ Lex.lx 0 s.data.toList = pre ++ [x] ∧ lexer_Lex.f s = some ([], x.err, (x.pos : Int)) := by
  rcases split 0 s.data.toList with hx | ⟨pre, x, hp, hx, e⟩
  · exact .inl ⟨_, hx, rfl, ok s h rfl hx⟩
  · exact .inr ⟨pre, x, hp, hx, e, bad s h pre x hp hx e⟩
end Go.Proofs.YtjcleemflenaoaaDoor.LexHead
