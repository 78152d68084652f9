/- The pure statement of LexerBeginnings: the text before an error has none, the text from there on has the same error at 0. -/
import Derived.Test.YtjcleemflenaoaaDoorLexPure
import Derived.Test.YtjcleemflenaoaaDoorLexHead
import Derived.Test.YtjcleemflenaoaaDoorH3
namespace Go.Proofs.YtjcleemflenaoaaDoor.Pure
open Go.RowKit Go.Proofs.YtjcleemflenaoaaDoor.H Go.Proofs.YtjcleemflenaoaaDoorW.PrintWords Go.Proofs.YtjcleemflenaoaaDoorW.PrintLast

theorem LexerBeginnings : pandectlaw05_LexerBeginnings.Pure := by
  intro s _
  refine ⟨1, ?_⟩
  unfold pandectlaw05_LexerBeginnings.f
  rw [LexHead.head]
  simp only [Option.bind_some]
  by_cases hs : (s.size : Int) > 3000
  · rw [if_pos hs]
  · rw [if_neg hs]
    have hsn : s.data.toList.length = s.size := Array.length_toList
    have hsz : s.data.toList.length ≤ 5000 := by omega
    obtain ⟨xs, hok, hl, e⟩ | ⟨pre, x, hp, hx, hl, e⟩ := LexHead.cases s hsz
    · rw [e]
      simp only [Option.bind_some, if_true]
      rfl
    · rw [e]
      obtain ⟨i1, i2, i3, i4⟩ := Lex.lx_error 0 _ pre x hl hx
      simp only [Nat.sub_zero, Nat.zero_add] at i2 i3 i4
      rw [Array.length_toList] at i2
      have i2' : x.pos < s.size := i2
      simp only [Option.bind_some, pandectlaw05_LexerBeginnings.j0]
      rw [if_neg hx, if_neg (by omega)]
      have hd : decide ((x.pos : Int) ≥ (s.size : Int)) = false := decide_eq_false (by omega)
      rw [hd, if_neg (by simp), if_pos (by omega), if_pos (by omega)]
      have e1 : lexer_Lex.f (s.extract 0 (x.pos : Int).toNat) = some (pre.map lexer_Lex.toS, 0, 0) := by
        refine LexHead.ok _ (by rw [Lib.extract_data, List.drop_zero, List.length_take]; omega) ?_ hp
        rw [Lib.extract_data, List.drop_zero, Nat.sub_zero, Int.toNat_natCast]; exact i3
      have e2 : lexer_Lex.f (s.extract (x.pos : Int).toNat s.size) = some ([], x.err, 0) := by
        have h4 : Lex.lx 0 (s.data.toList.drop x.pos) = [] ++ [{ x with pos := 0 }] := by
          have := Lex.lx_zero x.pos (s.data.toList.drop x.pos)
          rw [i4] at this
          cases h : Lex.lx 0 (s.data.toList.drop x.pos) with
          | nil => rw [h] at this; simp at this
          | cons y r =>
            rw [h] at this
            simp only [List.map_cons, List.cons.injEq] at this
            obtain ⟨ey, er⟩ := this
            have : r = [] := List.map_eq_nil_iff.1 er.symm
            subst this
            rw [ey]
            simp only [List.nil_append, List.cons.injEq, and_true]
            have hy : y.pos + x.pos = x.pos := by have := congrArg Lex.Fd.pos ey; simpa [Lex.shift] using this.symm
            cases y
            simp only [Lex.shift] at hy ⊢
            congr 1
            omega
        refine LexHead.bad _ (by rw [Lib.extract_data, List.length_take, List.length_drop]; omega) [] { x with pos := 0 } (by simp) hx ?_
        rw [Lib.extract_data, Int.toNat_natCast, List.take_of_length_le (by rw [List.length_drop, Array.length_toList]; exact Nat.le_refl _)]
        exact h4
      rw [e1, e2]
      simp
end Go.Proofs.YtjcleemflenaoaaDoor.Pure
