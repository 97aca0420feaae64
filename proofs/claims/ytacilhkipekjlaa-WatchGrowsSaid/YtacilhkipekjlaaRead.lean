/-
  What came in: expressions and truths, as the walks take them.
-/
import Derived.Test.YtacilhkipekjlaaWalk16
import Derived.Test.YtacilhkipekjlaaLfRec
namespace Go.Proofs.Ytacilhkipekjlaa
open Lf Go
theorem exp_of : ∀ (n : Nat) {cs : List Cell}, TyL TY n 24 cs → ∃ e : Exp, cs = encX e ∧ OkE e
  | 0, cs, h => h.elim
  | 1, cs, h => by
    obtain ⟨a1, b1, rfl, t1, -⟩ : ∃ a1 b1, cs = a1 ++ b1 ∧ TyL TY 0 3 a1 ∧ True := by
      obtain ⟨a1, b1, h1, h2, _⟩ := h; exact ⟨a1, b1, h1, h2, trivial⟩
    exact t1.elim
  | n + 2, cs, h => by
    obtain ⟨a1, b1, rfl, t1, a2, b2, rfl, t2, a3, b3, rfl, t3, a4, b4, rfl, t4, a5, b5, rfl, t5, rfl⟩ : ∃ a1 b1, cs = a1 ++ b1 ∧ TyL TY (n + 1) 3 a1 ∧ ∃ a2 b2, b1 = a2 ++ b2 ∧ TyL TY (n + 1) 3 a2 ∧ ∃ a3 b3, b2 = a3 ++ b3 ∧ TyL TY (n + 1) 3 a3 ∧ ∃ a4 b4, b3 = a4 ++ b4 ∧ TyL TY (n + 1) 9 a4 ∧ ∃ a5 b5, b4 = a5 ++ b5 ∧ TyL TY (n + 1) 22 a5 ∧ b5 = [] := h
    obtain ⟨i1, rfl, _⟩ : ∃ i, a1 = [.int .i64 i] ∧ (Lit.int .i64 i).wf = true := t1
    obtain ⟨i2, rfl, _⟩ : ∃ i, a2 = [.int .i64 i] ∧ (Lit.int .i64 i).wf = true := t2
    obtain ⟨i3, rfl, _⟩ : ∃ i, a3 = [.int .i64 i] ∧ (Lit.int .i64 i).wf = true := t3
    obtain ⟨s, rfl, hs⟩ : ∃ s, a4 = [.str s] ∧ s.length ≤ maxLen := t4
    obtain ⟨rows, rfl, hl, hr⟩ : ∃ rows, a5 = [Cell.sl rows] ∧ rows.length ≤ maxLen ∧ ∀ r ∈ rows, TyL TY n 24 r := t5
    obtain ⟨l, rfl, ho⟩ := rows_map (f := encX) (p := OkE) fun r hr' => exp_of n (hr r hr')
    refine ⟨.mk i1 i2 i3 s l, ?_, .mk (by unfold maxLen at hs; omega) (by simp only [List.length_map] at hl; unfold maxLen at hl; omega) ho⟩
    have := aE_mk i1 i2 i3 s l
    injection this with this
    exact this.symm
theorem int1_of {n : Nat} {cs : List Cell} (h : TyL TY (n + 1) 3 cs) : ∃ i : Int, cs = encI i ∧ True := by
  obtain ⟨i, rfl, _⟩ : ∃ i, cs = [.int .i64 i] ∧ (Lit.int .i64 i).wf = true := h
  exact ⟨i, rfl, trivial⟩
theorem row_of {n : Nat} {cs : List Cell} (h : TyL TY (n + 2) 29 cs) : ∃ r : List Int, cs = encR r ∧ r.length ≤ 9223372036854775807 := by
  obtain ⟨rows, rfl, hl, h3⟩ : ∃ rows, cs = [Cell.sl rows] ∧ rows.length ≤ maxLen ∧ ∀ r ∈ rows, TyL TY (n + 1) 3 r := h
  obtain ⟨l, rfl, _⟩ := rows_map (f := encI) (p := fun _ => True) fun r hr => int1_of (n := n) (h3 r hr)
  exact ⟨l, rfl, by simp only [List.length_map] at hl; unfold maxLen at hl; omega⟩
def okT (ts : List (List Int)) : Prop := ts.length ≤ 9223372036854775807 ∧ ∀ t ∈ ts, t.length ≤ 9223372036854775807
theorem truths_of {c : Cell} (h : TyL TY 4 25 [c]) : ∃ ts : List (List Int), c = .sl (ts.map encR) ∧ okT ts := by
  obtain ⟨rows, h1, hl, h3⟩ : ∃ rows, [c] = [Cell.sl rows] ∧ rows.length ≤ maxLen ∧ ∀ r ∈ rows, TyL TY 3 29 r := h
  obtain rfl := (List.cons.inj h1).1
  obtain ⟨l, rfl, ho⟩ := rows_map (f := encR) (p := fun r => r.length ≤ 9223372036854775807) fun r hr => row_of (n := 1) (h3 r hr)
  exact ⟨l, rfl, by simp only [List.length_map] at hl; unfold maxLen at hl; omega, ho⟩
end Go.Proofs.Ytacilhkipekjlaa
