/-
  What the rows' list says of the table of powers; a world that lays the listed tables; what came in: big integers, as the walks take them.
-/
import Derived.Test.YtipghibmgfhmpaaGreatDoorWalk12
import Derived.Test.YtipghibmgfhmpaaGreatDoorCards
import Derived.Test.YtipghibmgfhmpaaGreatDoorTie
import Derived.Test.YtipghibmgfhmpaaGreatDoorLfLaid
namespace Go.Proofs.YtipghibmgfhmpaaGreatDoor
open Lf Go Go.RowKit
theorem gPow : Tryz.prog.globalNamed "internal/strconv.uint64pow10" = some 3 := by kernel_rfl
theorem gPowType : (Tryz.prog.globals[3]?).map (·.type) = some 143 := by kernel_rfl
theorem cells143 : Tryz.prog.cellsOf 143 = 20 := by kernel_rfl
theorem cells66 : Tryz.prog.cellsOf 66 = 1 := by kernel_rfl
theorem tab_at {P : Program} {W : World} {name : String} {k : IntKind} {zs : List Int} {rest : List (String × DataW Unit)} {ps : List MemPlace} {g : Nat} {t e : TypeId} {n : Nat}
    (hg : P.globalNamed name = some g) (hty : (P.globals[g]?).map (·.type) = some t) (ht : P.underlying t = some (.array n e)) (he : P.underlying e = some (.int k)) (hce : P.cellsOf e = 1) (hct : P.cellsOf t = n)
    (h : DataW.LaidVars P W ((name, Lib.tabData k zs) :: rest) ps) : Lib.TabIs P W name k zs := by
  obtain ⟨g', t', cs, fuel, p, q, hg', ht', hvar, hd, _, _⟩ := h
  obtain rfl := Option.some.inj (hg.symm.trans hg')
  obtain rfl := Option.some.inj (hty.symm.trans ht')
  unfold Lib.TabIs
  rw [hvar, ← Lib.cells_of_tab ht he hce hct hd]
theorem laid_tail {P : Program} {W : World} {x : String × DataW Unit} {rest : List (String × DataW Unit)} {ps : List MemPlace} (h : DataW.LaidVars P W (x :: rest) ps) : ∃ q, DataW.LaidVars P W rest q := by
  obtain ⟨g', t', cs, fuel, p, q, hg', ht', hvar, hd, h, _⟩ := h
  exact ⟨q, h⟩
theorem pow_of {W : World} (h : laidMet Tryz.prog [("math/bits.deBruijn32tab", Rows.laid_math_bits_deBruijn32tab), ("math/bits.deBruijn64tab", Rows.laid_math_bits_deBruijn64tab), ("internal/strconv.uint64pow10", Rows.laid_internal_strconv_uint64pow10), ("unicode/utf8.acceptRanges", Rows.laid_unicode_utf8_acceptRanges), ("unicode/utf8.first", Rows.laid_unicode_utf8_first)] W) : RelG (allΦ W) 3 powC := by
  obtain ⟨ps, h, _⟩ := h
  obtain ⟨p1, h⟩ := laid_tail h
  obtain ⟨p2, h⟩ := laid_tail h
  exact relG_of gPow (tab_at (k := .u64) (zs := Lib.pow10Tab) gPow gPowType Tryz.underlying143 Tryz.underlying66 cells66 cells143 h)
/-- what a list's datum lays in memory -/
def vals : Nat → DataW Unit → List Value
  | 0, _ => []
  | n + 1, .agg l => l.flatMap (vals n)
  | _ + 1, .lit (.int k z) => [.int k z]
  | _ + 1, _ => []
noncomputable def lay (d : DataW Unit) : Obj → Obj
  | .cells _ t frozen => .cells (vals 4 d).toArray t frozen
  | o => o
/-- a world in which the variables hold what their initialisers lay -/
noncomputable def laidWorld (os : Os) : World :=
  { World.holding Tryz.prog os ⟨#[], #[], []⟩ with heap := (((((World.holding Tryz.prog os ⟨#[], #[], []⟩).heap.modify 4 (lay Rows.laid_math_bits_deBruijn32tab)).modify 5 (lay Rows.laid_math_bits_deBruijn64tab)).modify 3 (lay Rows.laid_internal_strconv_uint64pow10)).modify 2 (lay Rows.laid_unicode_utf8_acceptRanges)).modify 1 (lay Rows.laid_unicode_utf8_first) }
structure BV where
  s : Int
  l : List Int
abbrev encB (b : BV) : List Cell := [.int .i64 b.s, .sl (b.l.map Lf.encI)]
theorem int_of1 {n : Nat} {cs : List Cell} (h : TyL TY (n + 1) 3 cs) : ∃ i : Int, cs = Lf.encI i ∧ True := by
  obtain ⟨i, rfl, _⟩ : ∃ i, cs = [.int .i64 i] ∧ (Lit.int .i64 i).wf = true := h
  exact ⟨i, rfl, trivial⟩
theorem big_of {n : Nat} {cs : List Cell} (h : TyL TY (n + 3) 24 cs) : ∃ b : BV, cs = encB b ∧ b.l.length ≤ 9223372036854775807 := by
  obtain ⟨a1, b1, rfl, t1, a2, b2, rfl, t2, rfl⟩ : ∃ a1 b1, cs = a1 ++ b1 ∧ TyL TY (n + 2) 3 a1 ∧ ∃ a2 b2, b1 = a2 ++ b2 ∧ TyL TY (n + 2) 22 a2 ∧ b2 = [] := h
  obtain ⟨s, rfl, _⟩ : ∃ i, a1 = [.int .i64 i] ∧ (Lit.int .i64 i).wf = true := t1
  obtain ⟨rows, rfl, hl, h3⟩ : ∃ rows, a2 = [Cell.sl rows] ∧ rows.length ≤ maxLen ∧ ∀ r ∈ rows, TyL TY (n + 1) 3 r := t2
  obtain ⟨l, rfl, _⟩ := rows_map (f := Lf.encI) (p := fun _ => True) fun r hr => int_of1 (h3 r hr)
  exact ⟨⟨s, l⟩, rfl, by simp only [List.length_map] at hl; unfold maxLen at hl; exact hl⟩
structure FV where
  p : BV
  q : BV
abbrev encFV (f : FV) : List Cell := [.int .i64 f.p.s, .sl (f.p.l.map Lf.encI), .int .i64 f.q.s, .sl (f.q.l.map Lf.encI)]
theorem frv_of {n : Nat} {cs : List Cell} (h : TyL TY (n + 4) 26 cs) : ∃ f : FV, cs = encFV f ∧ f.p.l.length ≤ 9223372036854775807 ∧ f.q.l.length ≤ 9223372036854775807 := by
  obtain ⟨a1, b1, rfl, t1, a2, b2, rfl, t2, rfl⟩ : ∃ a1 b1, cs = a1 ++ b1 ∧ TyL TY (n + 3) 24 a1 ∧ ∃ a2 b2, b1 = a2 ++ b2 ∧ TyL TY (n + 3) 24 a2 ∧ b2 = [] := h
  obtain ⟨x, rfl, hx⟩ := big_of t1
  obtain ⟨y, rfl, hy⟩ := big_of t2
  exact ⟨⟨x, y⟩, rfl, hx, hy⟩
end Go.Proofs.YtipghibmgfhmpaaGreatDoor
