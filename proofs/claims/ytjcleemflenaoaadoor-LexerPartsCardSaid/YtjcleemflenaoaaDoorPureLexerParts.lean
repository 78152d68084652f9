/- The pure statement of LexerParts: two texts with a line feed between them. -/
import Derived.Test.YtjcleemflenaoaaDoorLexCmpSame
import Derived.Test.YtjcleemflenaoaaDoorH3
namespace Go.Proofs.YtjcleemflenaoaaDoor.Pure
open Go.RowKit Go.Proofs.YtjcleemflenaoaaDoor.H Go.Proofs.YtjcleemflenaoaaDoorW.PrintWords Go.Proofs.YtjcleemflenaoaaDoorW.PrintLast

theorem parts_ok (s u : ByteArray) (k : Nat) (A B C : List S30) (e : lexer_Lex.f s = some (A, 0, 0)) (e2 : lexer_Lex.f u = some (B, 0, 0)) (e3 : lexer_Lex.f ((s ++ (⟨#[10]⟩ : ByteArray)) ++ u) = some (C, 0, 0))
    (hz1 : s.size + 1 ≤ 9223372036854775807) (hz2 : (s ++ (⟨#[10]⟩ : ByteArray)).size + u.size ≤ 9223372036854775807) (hl : (C.length : Int) = wrap64 ((A.length : Int) + (B.length : Int))) (hle : (A.length : Int) ≤ (C.length : Int))
    (h1 : pandectref05_Same.f A 0 (C.take A.length) = some true) (h2 : pandectref05_Same.f B (wrap64 ((s.size : Int) + 1)) (C.drop A.length) = some true) : pandectlaw05_LexerParts.j0 (k + 1) s u true false = some true := by
  have h0 : (0 : Int) ≤ (A.length : Int) := Int.natCast_nonneg _
  rw [pandectlaw05_LexerParts.j0, if_neg (by decide), e, e2, Option.bind_some, Option.bind_some, if_pos hz1, if_pos hz2, e3, Option.bind_some, if_pos rfl, if_pos rfl, if_pos rfl, if_pos rfl, if_pos hl, if_pos h0, if_pos hle, Int.toNat_natCast, h1, Option.bind_some, if_pos rfl, h2]
  rfl
theorem LexerParts : pandectlaw05_LexerParts.Pure := by
  intro s u _ _
  refine ⟨5000, ?_⟩
  unfold pandectlaw05_LexerParts.f
  rw [LexHead.head]
  simp only [Option.bind_some]
  by_cases hs : (s.size : Int) > 1500
  · rw [if_pos hs]; simp only [pandectlaw05_LexerParts.j0, if_true]
  · rw [if_neg hs]
    by_cases hu : (u.size : Int) > 1500
    · rw [decide_eq_true hu]; simp only [pandectlaw05_LexerParts.j0, if_true]
    · rw [decide_eq_false hu]
      have hsn : s.data.toList.length = s.size := Array.length_toList
      have hun : u.data.toList.length = u.size := Array.length_toList
      have hcat : ((s ++ (⟨#[10]⟩ : ByteArray)) ++ u).data.toList = s.data.toList ++ 10 :: u.data.toList := by
        rw [LexHead.data_app, LexHead.data_app, List.append_assoc]; rfl
      have hlen : ((s ++ (⟨#[10]⟩ : ByteArray)) ++ u).data.toList.length ≤ 5000 := by rw [hcat, List.length_append, List.length_cons]; omega
      have hz1 : s.size + 1 ≤ 9223372036854775807 := by omega
      have hz2 : (s ++ (⟨#[10]⟩ : ByteArray)).size + u.size ≤ 9223372036854775807 := by
        rw [ByteArray.size_append, show (⟨#[10]⟩ : ByteArray).size = 1 from rfl]; omega
      have hshift : Lex.lx (s.size + 1) u.data.toList = (Lex.lx 0 u.data.toList).map (Lex.shift (s.size + 1)) := Lex.lx_zero _ _
      obtain ⟨xs, hok, hl, e⟩ | ⟨pre, x, hp, hx, hl, e⟩ := LexHead.cases s (by omega)
      · have hj := Lex.lx_nl_ok u.data.toList 0 s.data.toList (by rw [hl]; exact hok)
        rw [← hcat, hl, Nat.zero_add, hsn, hshift] at hj
        have hxl : xs.length ≤ 1500 := by have := Lex.lx_len 0 s.data.toList; rw [hl] at this; omega
        have hxp : ∀ x ∈ xs, x.pos ≤ 100000 := by intro x hx; have := LexHead.lx_pos 0 s.data.toList x (by rw [hl]; exact hx); omega
        obtain ⟨ys, hok2, hl2, e2⟩ | ⟨pre, x, hp, hx, hl2, e2⟩ := LexHead.cases u (by omega)
        · rw [hl2] at hj
          have e3 := LexHead.ok _ hlen hj (by
            intro f hf
            rcases List.mem_append.1 hf with h | h
            · exact hok f h
            · obtain ⟨y, hy, rfl⟩ := List.mem_map.1 h; exact hok2 y hy)
          have hyl : ys.length ≤ 1500 := by have := Lex.lx_len 0 u.data.toList; rw [hl2] at this; omega
          have hyp : ∀ x ∈ ys, x.pos ≤ 100000 := by intro x hx; have := LexHead.lx_pos 0 u.data.toList x (by rw [hl2]; exact hx); omega
          have t1 : (xs.map lexer_Lex.toS ++ (ys.map (Lex.shift (s.size + 1))).map lexer_Lex.toS).take (xs.map lexer_Lex.toS).length = xs.map lexer_Lex.toS := by
            rw [List.take_append_of_le_length (Nat.le_refl _), List.take_of_length_le (Nat.le_refl _)]
          have t2 : (xs.map lexer_Lex.toS ++ (ys.map (Lex.shift (s.size + 1))).map lexer_Lex.toS).drop (xs.map lexer_Lex.toS).length = (ys.map (Lex.shift (s.size + 1))).map lexer_Lex.toS := by
            rw [List.drop_append_of_le_length (Nat.le_refl _), List.drop_eq_nil_of_le (Nat.le_refl _), List.nil_append]
          rw [List.map_append] at e3
          refine parts_ok s u 4999 _ _ _ e e2 e3 hz1 hz2 ?_ ?_ ?_ ?_
          · rw [LexHead.wrap_id (by simp only [List.length_map]; omega) (by simp only [List.length_map]; omega)]
            simp only [List.length_append, List.length_map]
            omega
          · simp only [List.length_append, List.length_map]
            omega
          · rw [t1]; exact LexHead.same_self (by omega) hxp
          · have hw : wrap64 ((s.size : Int) + 1) = ((s.size + 1 : Nat) : Int) := by rw [LexHead.wrap_id (by omega) (by omega)]; omega
            rw [t2, hw]; exact LexHead.same_shift (s.size + 1) (by omega) (by omega) hyp
        · rw [hl2, List.map_append, ← List.append_assoc] at hj
          have e3 := LexHead.bad _ hlen (xs ++ pre.map (Lex.shift (s.size + 1))) (Lex.shift (s.size + 1) x) (by
            intro f hf
            rcases List.mem_append.1 hf with h | h
            · exact hok f h
            · obtain ⟨y, hy, rfl⟩ := List.mem_map.1 h; exact hp y hy) hx hj
          have hxp2 : x.pos ≤ 1500 := by have := LexHead.lx_pos 0 u.data.toList x (by rw [hl2]; simp); omega
          rw [pandectlaw05_LexerParts.j0, if_neg (by decide), e, e2]
          simp only [Option.bind_some]
          rw [if_pos hz1, if_pos hz2, e3]
          simp only [Option.bind_some, if_true]
          rw [if_neg hx, if_pos (show (Lex.shift (s.size + 1) x).err = x.err from rfl)]
          simp only [Lex.shift]
          rw [LexHead.wrap_id (x := (x.pos : Int) + (s.size : Int)) (by omega) (by omega), LexHead.wrap_id (by omega) (by omega)]
          simp only [Option.some.injEq, beq_iff_eq]
          omega
      · have hj := Lex.lx_nl_bad u.data.toList 0 s.data.toList pre x hl hx
        rw [← hcat] at hj
        have e3 := LexHead.bad _ hlen pre x hp hx hj
        have e2 : ∃ q, lexer_Lex.f u = some q := ⟨_, rfl⟩
        obtain ⟨q, e2⟩ := e2
        rw [pandectlaw05_LexerParts.j0, if_neg (by decide), e, e2]
        simp only [Option.bind_some]
        rw [if_pos hz1, if_pos hz2, e3]
        simp only [Option.bind_some]
        rw [if_neg hx]
        simp [hx]
end Go.Proofs.YtjcleemflenaoaaDoor.Pure
