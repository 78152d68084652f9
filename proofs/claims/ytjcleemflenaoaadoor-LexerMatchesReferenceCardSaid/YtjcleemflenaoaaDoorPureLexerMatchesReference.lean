/- The pure statement of LexerMatchesReference: the reference's Lex answers what Lex answers. -/
import Derived.Test.YtjcleemflenaoaaDoorLexRef2
import Derived.Test.YtjcleemflenaoaaDoorLexHead
import Derived.Test.YtjcleemflenaoaaDoorLexSameCalls
import Derived.Test.YtjcleemflenaoaaDoorH10
namespace Go.Proofs.YtjcleemflenaoaaDoor.Pure
open Go.RowKit Go.Proofs.YtjcleemflenaoaaDoor.H Go.Proofs.YtjcleemflenaoaaDoorW.PrintWords Go.Proofs.YtjcleemflenaoaaDoorW.PrintLast
set_option linter.unusedVariables false

theorem lx_pos : ∀ p l, ∀ x ∈ Lex.lx p l, x.pos ≤ p + l.length := by
  refine Lex.lx_ind ?_ ?_ ?_ ?_ ?_
  · intro p x hx; rw [Lex.lx_nil] at hx; simp at hx
  · intro p b t h1 ih x hx; rw [Lex.lx_blank h1] at hx; have := ih x hx; rw [List.length_cons]; omega
  · intro p b t h2 ih x hx
    rw [Lex.lx_hash h2] at hx
    have := ih x hx
    have hlen : (t.dropWhile Lex.notNl).length + (t.takeWhile Lex.notNl).length = t.length := by
      have := Lex.takeWhile_len_le Lex.notNl t
      rw [Lex.dropWhile_eq_drop, List.length_drop]; omega
    rw [List.length_cons]; omega
  · intro p b t h1 h2 he ih x hx
    rw [Lex.lx_tok h1 h2, if_pos he] at hx
    rcases List.mem_cons.1 hx with rfl | hx
    · rw [Lex.tok1_pos]; omega
    · have := ih x hx
      have := Lex.tok1_text_le p b t
      rw [List.length_drop] at *
      omega
  · intro p b t h1 h2 he x hx
    rw [Lex.lx_tok h1 h2, if_neg he] at hx
    rw [List.mem_singleton.1 hx, Lex.tok1_pos]; omega
theorem run_sub : ∀ (fs out : List Lex.Fd), (∀ x ∈ (Lex.run out fs).1, x ∈ out ∨ x ∈ fs) ∧ (Lex.run out fs).1.length ≤ out.length + fs.length
  | [], out => ⟨fun x hx => .inl hx, Nat.le_refl _⟩
  | f :: fs, out => by
    rw [Lex.run]
    by_cases he : f.err ≠ 0
    · rw [if_pos he]; exact ⟨fun x hx => by simp at hx, Nat.zero_le _⟩
    · rw [if_neg he]
      by_cases h5 : out.length = 5000
      · rw [if_pos h5]; exact ⟨fun x hx => by simp at hx, Nat.zero_le _⟩
      · rw [if_neg h5]
        obtain ⟨i1, i2⟩ := run_sub fs (out ++ [f])
        refine ⟨fun x hx => ?_, by rw [List.length_append] at i2; simp only [List.length_cons, List.length_nil] at i2 ⊢; omega⟩
        rcases i1 x hx with h | h
        · rcases List.mem_append.1 h with h | h
          · exact .inl h
          · rw [List.mem_singleton.1 h]; exact .inr List.mem_cons_self
        · exact .inr (List.mem_cons_of_mem _ h)
theorem rd_map (xs : List Lex.Fd) (j : Nat) (x : Lex.Fd) (h : xs[j]? = some x) : rd_T30 (xs.map lexer_Lex.toS) (j : Int) = lexer_Lex.toS x := by
  unfold rd_T30
  rw [Int.toNat_natCast, List.getD_eq_getElem?_getD, List.getElem?_map, h]; rfl
theorem same_self {xs : List Lex.Fd} (hn : xs.length ≤ 100000) (hp : ∀ x ∈ xs, x.pos ≤ 100000) :
    pandectref05_Same.f (xs.map lexer_Lex.toS) 0 (xs.map lexer_Lex.toS) = some true := by
  unfold pandectref05_Same.f
  rw [if_pos (by rw [List.length_map]; omega)]
  congr 1
  unfold same
  rw [Bool.and_eq_true, List.all_eq_true]
  refine ⟨by simp, fun j hj => ?_⟩
  have hj : j < xs.length := by have := List.mem_range.1 hj; rwa [List.length_map] at this
  have hx := List.getElem?_eq_getElem hj
  have hpos := hp xs[j] (List.getElem_mem hj)
  rw [rd_map xs j _ hx]
  have hw : wrap64 (((xs[j]).pos : Int) + 0) = ((xs[j]).pos : Int) := by rw [LexRef.wrap_id (by omega) (by omega)]; omega
  unfold sameTok
  simp only [lexer_Lex.toS, hw, beq_self_eq_true, Bool.and_self]
theorem matches_one (s : ByteArray) (k : Nat) (A : List S30) (e m : Int) (h1 : lexer_Lex.f s = some (A, e, m)) (h2 : pandectref05_Lex.f k s = some (A, e, m)) (h3 : pandectref05_Same.f A 0 A = some true) (hs : ¬ (s.size : Int) > 21000) :
    pandectlaw05_LexerMatchesReference.f k s = some true := by
  rw [pandectlaw05_LexerMatchesReference.f, LexHead.head, Option.bind_some, if_neg hs, h1, Option.bind_some, h2, Option.bind_some, if_pos rfl, if_pos rfl, if_pos rfl, h3]
  rfl
theorem LexerMatchesReference : pandectlaw05_LexerMatchesReference.Pure := by
  intro s _
  refine ⟨5 * s.size + 200, ?_⟩
  by_cases hs : (s.size : Int) > 21000
  · rw [pandectlaw05_LexerMatchesReference.f, LexHead.head, Option.bind_some, if_pos hs]
  · have hsn : s.data.toList.length = s.size := Array.length_toList
    have h1 : lexer_Lex.f s = some ((Lex.lex s.data.toList).1.map lexer_Lex.toS, (Lex.lex s.data.toList).2.1, (Lex.lex s.data.toList).2.2) := rfl
    have h2 := LexRef.lex_f s (by omega) (5 * s.size + 200) (Nat.le_refl _)
    have h4 : (Lex.lex s.data.toList).1.length ≤ 100000 ∧ ∀ x ∈ (Lex.lex s.data.toList).1, x.pos ≤ 100000 := by
      unfold Lex.lex
      by_cases h : s.data.toList.length > 20000
      · rw [if_pos h]; exact ⟨by simp, fun x hx => by simp at hx⟩
      · rw [if_neg h]
        obtain ⟨i1, i2⟩ := run_sub (Lex.lexL (s.data.toList.length + 1) 0 s.data.toList) []
        have hl := Lex.lx_len 0 s.data.toList
        have e : Lex.lx 0 s.data.toList = Lex.lexL (s.data.toList.length + 1) 0 s.data.toList := rfl
        rw [e] at hl
        refine ⟨by simp only [List.length_nil] at i2; omega, fun x hx => ?_⟩
        rcases i1 x hx with h | h
        · simp at h
        · have := lx_pos 0 s.data.toList x (by rw [e]; exact h); omega
    exact matches_one s _ _ _ _ h1 (h2.trans h1) (same_self h4.1 h4.2) hs
end Go.Proofs.YtjcleemflenaoaaDoor.Pure
