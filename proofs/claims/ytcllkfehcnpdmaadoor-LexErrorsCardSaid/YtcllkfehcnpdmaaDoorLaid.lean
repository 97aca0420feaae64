/-
  What the rows' list says of the variable signs; a world that lays it; what came in: tokens, as the walks take them.
-/
import Derived.Test.YtcllkfehcnpdmaaDoorWalk8
import Derived.Test.YtcllkfehcnpdmaaDoorCards
import Derived.Test.YtcllkfehcnpdmaaDoorTie
import Derived.Test.YtcllkfehcnpdmaaDoorLfLaid
namespace Go.Proofs.YtcllkfehcnpdmaaDoor
open Lf Go LexSpec
theorem gSigns : Tryd.prog.globalNamed "consol/lex.signs" = some 0 := by kernel_rfl
theorem gSignsType : (Tryd.prog.globals[0]?).map (·.type) = some 44 := by kernel_rfl
theorem cells44 : Tryd.prog.cellsOf 44 = 11 := by kernel_rfl
theorem cells9 : Tryd.prog.cellsOf 9 = 1 := by kernel_rfl
theorem signs_of {W : World} (h : laidMet Tryd.prog [("consol/lex.signs", Rows.laid_consol_lex_signs)] W) : RelG (allΦ W) 0 SG :=
  relG_strs (zs := SIGNS) (rest := []) gSigns gSignsType Tryd.underlying44 Tryd.underlying9 cells9 cells44 h
/-- a world in which the variable holds what its initialiser lays -/
noncomputable def laidWorld (os : Os) : World :=
  { World.holding Tryd.prog os ⟨#[], #[], []⟩ with heap := (World.holding Tryd.prog os ⟨#[], #[], []⟩).heap.modify 0 fun
      | .cells _ t frozen => .cells #[.string ⟨#[61, 61]⟩, .string ⟨#[59]⟩, .string ⟨#[44]⟩, .string ⟨#[61]⟩, .string ⟨#[60]⟩, .string ⟨#[43]⟩, .string ⟨#[45]⟩, .string ⟨#[42]⟩, .string ⟨#[47]⟩, .string ⟨#[40]⟩, .string ⟨#[41]⟩] t frozen
      | o => o }
theorem str_room {s : ByteArray} (h : s.size ≤ maxLen) : s.data.toList.length ≤ 9223372036854775807 := by
  have := str_size s
  unfold maxLen at h; omega
theorem token_of {n : Nat} {cs : List Cell} (h : TyL TY (n + 2) 25 cs) : ∃ t : Token, cs = encT t ∧ True := by
  obtain ⟨a1, b1, rfl, t1, a2, b2, rfl, t2, a3, b3, rfl, t3, a4, b4, rfl, t4, rfl⟩ : ∃ a1 b1, cs = a1 ++ b1 ∧ TyL TY (n + 1) 3 a1 ∧ ∃ a2 b2, b1 = a2 ++ b2 ∧ TyL TY (n + 1) 9 a2 ∧ ∃ a3 b3, b2 = a3 ++ b3 ∧ TyL TY (n + 1) 3 a3 ∧ ∃ a4 b4, b3 = a4 ++ b4 ∧ TyL TY (n + 1) 3 a4 ∧ b4 = [] := h
  obtain ⟨i1, rfl, _⟩ : ∃ i, a1 = [.int .i64 i] ∧ (Lit.int .i64 i).wf = true := t1
  obtain ⟨s, rfl, hs⟩ : ∃ s, a2 = [.str s] ∧ s.length ≤ maxLen := t2
  obtain ⟨i3, rfl, _⟩ : ∃ i, a3 = [.int .i64 i] ∧ (Lit.int .i64 i).wf = true := t3
  obtain ⟨i4, rfl, _⟩ : ∃ i, a4 = [.int .i64 i] ∧ (Lit.int .i64 i).wf = true := t4
  exact ⟨⟨i1, s, i3, i4⟩, rfl, trivial⟩
theorem tokens_of {c : Cell} (h : TyL TY 4 22 [c]) : ∃ l : List Token, c = .sl (l.map encT) ∧ True := by
  obtain ⟨rows, h1, _, h3⟩ : ∃ rows, [c] = [Cell.sl rows] ∧ rows.length ≤ maxLen ∧ ∀ r ∈ rows, TyL TY 3 25 r := h
  obtain rfl := (List.cons.inj h1).1
  obtain ⟨l, rfl, _⟩ := rows_map (f := encT) (p := fun _ => True) fun r hr => token_of (n := 1) (h3 r hr)
  exact ⟨l, rfl, trivial⟩
end Go.Proofs.YtcllkfehcnpdmaaDoor
