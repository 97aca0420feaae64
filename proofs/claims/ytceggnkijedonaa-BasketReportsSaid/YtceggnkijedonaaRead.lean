/-
  What came in: baskets, facts and uses, as the walks take them.
-/
import Derived.Test.YtceggnkijedonaaWalk8
namespace Go.Proofs.Ytceggnkijedonaa
open Lf Go
theorem fit_i64 {n : Int} (h : (Lit.int .i64 n).wf = true) : -9223372036854775808 ≤ n ∧ n ≤ 9223372036854775807 := bounds_i64 h
theorem basket_of {cs : List Cell} (h : TyL TY 4 23 cs) : ∃ b : Basket, cs = encB b ∧ okN b.name := by
  obtain ⟨a1, b1, rfl, t1, a2, b2, rfl, t2, a3, b3, rfl, t3, a4, b4, rfl, t4, rfl⟩ : ∃ a1 b1, cs = a1 ++ b1 ∧ TyL TY 3 3 a1 ∧ ∃ a2 b2, b1 = a2 ++ b2 ∧ TyL TY 3 3 a2 ∧ ∃ a3 b3, b2 = a3 ++ b3 ∧ TyL TY 3 3 a3 ∧ ∃ a4 b4, b3 = a4 ++ b4 ∧ TyL TY 3 9 a4 ∧ b4 = [] := h
  obtain ⟨i1, rfl, _⟩ : ∃ i, a1 = [.int .i64 i] ∧ (Lit.int .i64 i).wf = true := t1
  obtain ⟨i2, rfl, _⟩ : ∃ i, a2 = [.int .i64 i] ∧ (Lit.int .i64 i).wf = true := t2
  obtain ⟨i3, rfl, _⟩ : ∃ i, a3 = [.int .i64 i] ∧ (Lit.int .i64 i).wf = true := t3
  obtain ⟨s, rfl, hs⟩ : ∃ s, a4 = [.str s] ∧ s.length ≤ maxLen := t4
  exact ⟨⟨i1, i2, i3, s⟩, rfl, by unfold maxLen at hs; show s.length ≤ _; omega⟩
theorem fact_of {n : Nat} {cs : List Cell} (h : TyL TY (n + 2) 46 cs) : ∃ f : Fact, cs = encF f ∧ okN f.name := by
  obtain ⟨a1, b1, rfl, t1, a2, b2, rfl, t2, a3, b3, rfl, t3, a4, b4, rfl, t4, a5, b5, rfl, t5, rfl⟩ : ∃ a1 b1, cs = a1 ++ b1 ∧ TyL TY (n + 1) 3 a1 ∧ ∃ a2 b2, b1 = a2 ++ b2 ∧ TyL TY (n + 1) 9 a2 ∧ ∃ a3 b3, b2 = a3 ++ b3 ∧ TyL TY (n + 1) 3 a3 ∧ ∃ a4 b4, b3 = a4 ++ b4 ∧ TyL TY (n + 1) 3 a4 ∧ ∃ a5 b5, b4 = a5 ++ b5 ∧ TyL TY (n + 1) 3 a5 ∧ b5 = [] := h
  obtain ⟨i1, rfl, _⟩ : ∃ i, a1 = [.int .i64 i] ∧ (Lit.int .i64 i).wf = true := t1
  obtain ⟨s, rfl, hs⟩ : ∃ s, a2 = [.str s] ∧ s.length ≤ maxLen := t2
  obtain ⟨i3, rfl, _⟩ : ∃ i, a3 = [.int .i64 i] ∧ (Lit.int .i64 i).wf = true := t3
  obtain ⟨i4, rfl, _⟩ : ∃ i, a4 = [.int .i64 i] ∧ (Lit.int .i64 i).wf = true := t4
  obtain ⟨i5, rfl, _⟩ : ∃ i, a5 = [.int .i64 i] ∧ (Lit.int .i64 i).wf = true := t5
  exact ⟨⟨i1, s, i3, i4, i5⟩, rfl, by unfold maxLen at hs; show s.length ≤ _; omega⟩
theorem use_of {n : Nat} {cs : List Cell} (h : TyL TY (n + 2) 27 cs) : ∃ u : Use, cs = encU u ∧ True := by
  obtain ⟨a1, b1, rfl, t1, a2, b2, rfl, t2, a3, b3, rfl, t3, rfl⟩ : ∃ a1 b1, cs = a1 ++ b1 ∧ TyL TY (n + 1) 3 a1 ∧ ∃ a2 b2, b1 = a2 ++ b2 ∧ TyL TY (n + 1) 3 a2 ∧ ∃ a3 b3, b2 = a3 ++ b3 ∧ TyL TY (n + 1) 3 a3 ∧ b3 = [] := h
  obtain ⟨i1, rfl, _⟩ : ∃ i, a1 = [.int .i64 i] ∧ (Lit.int .i64 i).wf = true := t1
  obtain ⟨i2, rfl, _⟩ : ∃ i, a2 = [.int .i64 i] ∧ (Lit.int .i64 i).wf = true := t2
  obtain ⟨i3, rfl, _⟩ : ∃ i, a3 = [.int .i64 i] ∧ (Lit.int .i64 i).wf = true := t3
  exact ⟨⟨i1, i2, i3⟩, rfl, trivial⟩
theorem facts_of {c : Cell} (h : TyL TY 4 24 [c]) : ∃ l : List Fact, c = .sl (l.map encF) ∧ ∀ f ∈ l, okN f.name := by
  obtain ⟨rows, h1, _, h3⟩ : ∃ rows, [c] = [Cell.sl rows] ∧ rows.length ≤ maxLen ∧ ∀ r ∈ rows, TyL TY 3 46 r := h
  obtain rfl := (List.cons.inj h1).1
  obtain ⟨l, rfl, hl⟩ := rows_map (f := encF) (p := fun f => okN f.name) fun r hr => fact_of (n := 1) (h3 r hr)
  exact ⟨l, rfl, hl⟩
theorem uses_of {c : Cell} (h : TyL TY 4 25 [c]) : ∃ l : List Use, c = .sl (l.map encU) ∧ True := by
  obtain ⟨rows, h1, _, h3⟩ : ∃ rows, [c] = [Cell.sl rows] ∧ rows.length ≤ maxLen ∧ ∀ r ∈ rows, TyL TY 3 27 r := h
  obtain rfl := (List.cons.inj h1).1
  obtain ⟨l, rfl, hl⟩ := rows_map (f := encU) (p := fun _ => True) fun r hr => use_of (n := 1) (h3 r hr)
  exact ⟨l, rfl, trivial⟩
theorem fact1_of {cs : List Cell} (h : TyL TY 4 46 cs) : ∃ f : Fact, cs = encF f ∧ okN f.name := fact_of (n := 2) h
theorem use1_of {cs : List Cell} (h : TyL TY 4 27 cs) : ∃ u : Use, cs = encU u ∧ True := use_of (n := 2) h
end Go.Proofs.Ytceggnkijedonaa
