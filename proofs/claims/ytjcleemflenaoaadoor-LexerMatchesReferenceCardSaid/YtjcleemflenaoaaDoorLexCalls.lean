/- The contract of Lex in the print's words. -/
import Derived.Test.YtjcleemflenaoaaDoorLexMain
import Derived.Test.YtjcleemflenaoaaDoorH0
namespace Go.Proofs.YtjcleemflenaoaaDoor.H
open Go.RowKit Go.Proofs.YtjcleemflenaoaaDoorW.PrintWords Go.Proofs.YtjcleemflenaoaaDoorW.PrintLast Go.Proofs.YtjcleemflenaoaaDoorW.PrintMore
def lexer_Lex.toS (x : Lex.Fd) : S30 := ⟨x.kind, ⟨x.text.toArray⟩, x.n, (x.pos : Int)⟩
def lexer_Lex.f (a0 : ByteArray) : Option (List S30 × Int × Int) :=
  some ((Lex.lex a0.data.toList).1.map lexer_Lex.toS, (Lex.lex a0.data.toList).2.1, (Lex.lex a0.data.toList).2.2)
theorem lexer_Lex.reps (w : World) (base : Nat) (ok : Nat → Prop) : ∀ l : List Lex.Fd, Reps (k30.M w base ok) 4 (l.map lexer_Lex.toS) (Lex.toks l) := by
  intro l
  refine ⟨by rw [Lex.toks_len, List.length_map], ?_⟩
  induction l with
  | nil => intro j p h; simp at h
  | cons x l ih =>
    intro j p h
    cases j with
    | zero =>
      simp only [List.map_cons, List.getElem?_cons_zero, Option.some.injEq] at h
      subst h
      exact k30_mkM w base ok (lexer_Lex.toS x)
    | succ j =>
      simp only [List.map_cons, List.getElem?_cons_succ] at h
      have := ih j p h
      have e : (Lex.toks (x :: l)).drop ((j + 1) * 4) = (Lex.toks l).drop (j * 4) := by
        rw [show (j + 1) * 4 = j * 4 + 4 by omega, show Lex.toks (x :: l) = Lex.cells x ++ Lex.toks l from rfl, Nat.add_comm, ← List.drop_drop]
        rfl
      rw [e]; exact this
theorem lexer_Lex.calls (a0 : ByteArray) (r1 : List (S30)) (r2 : Int) (r3 : Int) (w : World) (h : lexer_Lex.f a0 = some (r1, r2, r3)) :
    Calls Tryd.prog 12 #[.string a0] w fun e w' => ∃ v0_ : Value, e = .returned (.tuple #[v0_, .int .i64 r2, .int .i64 r3]) ∧ Kd.R k30 30 w' w.heap.size (fun _ => True) v0_ r1 ∧ Below w.heap.size w w' := by
  simp only [lexer_Lex.f, Option.some.injEq, Prod.mk.injEq] at h
  obtain ⟨rfl, rfl, rfl⟩ := h
  refine (Lex.lex_calls a0 w).mono ?_
  rintro e w' ⟨v, he, ho, hb⟩
  refine ⟨v, he, ⟨fun _ _ => trivial, Lex.toks _, ?_, lexer_Lex.reps _ _ _ _⟩, hb⟩
  rw [List.length_map]
  exact ho
end Go.Proofs.YtjcleemflenaoaaDoor.H
