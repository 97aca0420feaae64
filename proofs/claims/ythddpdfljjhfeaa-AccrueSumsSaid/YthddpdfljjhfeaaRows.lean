/-
  No cell of these rows narrows 'for every input' (looked for: loops, veiled, ifaces, maps, wideKeys, modest, calm, conditions, laid).
  DERIVED. THE GIVEN ROWS OF THIS SEAT. 5 by the template 'for every input the law returns true; each argument reads behind the call as it read before'; 0 by the template 'total and deterministic' (their statements: YthddpdfljjhfeaaTotals.lean).
  GIVEN WITH THE SEED: the statements are not yours to turn. If you find one false, say at which input.
  Laid BY PROGRAM, IN A SANDBOX (cutbox-rows.mjs): the forced cells as the released guide's own fill.sh prints them over the translation 1d2eede21a63ea03… (all of the seat's roots in one cut). By AI agents, Wed Nov 11 2026. No macro, syntax, notation, axiom, sorry.
-/
import Derived.Test.YthddpdfljjhfeaaChecked
import GoSem.Claim
import GoSem.ClaimJoined
import GoSem.ClaimMapViews
import Derived.JoinedTies
import Derived.KernelRfl
namespace Go.Proofs.Ythddpdfljjhfeaa
/- THE CELL 'sum', in the pinned program and in every row, IS THE sha256 OF THE DUMP (.gsa) THAT YthddpdfljjhfeaaProg.lean LOADS. Nothing in Lean hashes anything: it is a label: what it is worth is what the hold of that sum in a sandbox is worth. -/
noncomputable def Try.pinned : Pinned := { name := "ythddpdfljjhfeaa", sum := "1d2eede21a63ea03d416222c468b45a640e465a46304ac4444fc591780e6d1e1", checked := Try.checked }
namespace Rows
def none {H : Type} : Left H := { results := [], args := [] }

/-- 'consollaw09.AccrueTells': WHATEVER THE INPUT: true; the input reads as it did. -/
def accrueTellsSpec : ChangeSpec := { name := "accrueTells", fn := fun _ => fun
  | [d1, d2, d3, d4, d5, d6, d7] => { results := [.lit (.bool true)], args := [d1, d2, d3, d4, d5, d6, d7] }
  | _ => none }
def accrueTellsRow : OpenClaim := { program := "ythddpdfljjhfeaa", sum := "1d2eede21a63ea03d416222c468b45a640e465a46304ac4444fc591780e6d1e1", func := "consol/consollaw09.AccrueTells", spec := "accrueTells", apart := false }
def AccrueTellsSaid : Prop := accrueTellsRow.holds Try.pinned (OpenSpec.ofChange accrueTellsSpec)

/-- ITS FALSE NEIGHBOUR: 'it returns false'. Refute it at one input. -/
def accrueTellsWrong : ChangeSpec := { name := "accrueTells", fn := fun _ => fun
  | [d1, d2, d3, d4, d5, d6, d7] => { results := [.lit (.bool false)], args := [d1, d2, d3, d4, d5, d6, d7] }
  | _ => none }
def AccrueTellsWrongFalsely : Prop := accrueTellsRow.holds Try.pinned (OpenSpec.ofChange accrueTellsWrong)

/-- 'consollaw09.AccrueAdds': WHATEVER THE INPUT: true; the input reads as it did. -/
def accrueAddsSpec : ChangeSpec := { name := "accrueAdds", fn := fun _ => fun
  | [d1, d2, d3, d4] => { results := [.lit (.bool true)], args := [d1, d2, d3, d4] }
  | _ => none }
def accrueAddsRow : OpenClaim := { program := "ythddpdfljjhfeaa", sum := "1d2eede21a63ea03d416222c468b45a640e465a46304ac4444fc591780e6d1e1", func := "consol/consollaw09.AccrueAdds", spec := "accrueAdds", apart := false }
def AccrueAddsSaid : Prop := accrueAddsRow.holds Try.pinned (OpenSpec.ofChange accrueAddsSpec)

/-- ITS FALSE NEIGHBOUR: 'it returns false'. Refute it at one input. -/
def accrueAddsWrong : ChangeSpec := { name := "accrueAdds", fn := fun _ => fun
  | [d1, d2, d3, d4] => { results := [.lit (.bool false)], args := [d1, d2, d3, d4] }
  | _ => none }
def AccrueAddsWrongFalsely : Prop := accrueAddsRow.holds Try.pinned (OpenSpec.ofChange accrueAddsWrong)

/-- 'consollaw09.AccrueYears': WHATEVER THE INPUT: true; the input reads as it did. -/
def accrueYearsSpec : ChangeSpec := { name := "accrueYears", fn := fun _ => fun
  | [d1, d2, d3, d4] => { results := [.lit (.bool true)], args := [d1, d2, d3, d4] }
  | _ => none }
def accrueYearsRow : OpenClaim := { program := "ythddpdfljjhfeaa", sum := "1d2eede21a63ea03d416222c468b45a640e465a46304ac4444fc591780e6d1e1", func := "consol/consollaw09.AccrueYears", spec := "accrueYears", apart := false }
def AccrueYearsSaid : Prop := accrueYearsRow.holds Try.pinned (OpenSpec.ofChange accrueYearsSpec)

/-- ITS FALSE NEIGHBOUR: 'it returns false'. Refute it at one input. -/
def accrueYearsWrong : ChangeSpec := { name := "accrueYears", fn := fun _ => fun
  | [d1, d2, d3, d4] => { results := [.lit (.bool false)], args := [d1, d2, d3, d4] }
  | _ => none }
def AccrueYearsWrongFalsely : Prop := accrueYearsRow.holds Try.pinned (OpenSpec.ofChange accrueYearsWrong)

/-- 'consollaw09.AccrueGrows': WHATEVER THE INPUT: true; the input reads as it did. -/
def accrueGrowsSpec : ChangeSpec := { name := "accrueGrows", fn := fun _ => fun
  | [d1, d2, d3, d4] => { results := [.lit (.bool true)], args := [d1, d2, d3, d4] }
  | _ => none }
def accrueGrowsRow : OpenClaim := { program := "ythddpdfljjhfeaa", sum := "1d2eede21a63ea03d416222c468b45a640e465a46304ac4444fc591780e6d1e1", func := "consol/consollaw09.AccrueGrows", spec := "accrueGrows", apart := false }
def AccrueGrowsSaid : Prop := accrueGrowsRow.holds Try.pinned (OpenSpec.ofChange accrueGrowsSpec)

/-- ITS FALSE NEIGHBOUR: 'it returns false'. Refute it at one input. -/
def accrueGrowsWrong : ChangeSpec := { name := "accrueGrows", fn := fun _ => fun
  | [d1, d2, d3, d4] => { results := [.lit (.bool false)], args := [d1, d2, d3, d4] }
  | _ => none }
def AccrueGrowsWrongFalsely : Prop := accrueGrowsRow.holds Try.pinned (OpenSpec.ofChange accrueGrowsWrong)

/-- 'consollaw09.AccrueSums': WHATEVER THE INPUT: true; the input reads as it did. -/
def accrueSumsSpec : ChangeSpec := { name := "accrueSums", fn := fun _ => fun
  | [d1, d2, d3, d4, d5, d6, d7] => { results := [.lit (.bool true)], args := [d1, d2, d3, d4, d5, d6, d7] }
  | _ => none }
def accrueSumsRow : OpenClaim := { program := "ythddpdfljjhfeaa", sum := "1d2eede21a63ea03d416222c468b45a640e465a46304ac4444fc591780e6d1e1", func := "consol/consollaw09.AccrueSums", spec := "accrueSums", apart := false }
def AccrueSumsSaid : Prop := accrueSumsRow.holds Try.pinned (OpenSpec.ofChange accrueSumsSpec)

/-- ITS FALSE NEIGHBOUR: 'it returns false'. Refute it at one input. -/
def accrueSumsWrong : ChangeSpec := { name := "accrueSums", fn := fun _ => fun
  | [d1, d2, d3, d4, d5, d6, d7] => { results := [.lit (.bool false)], args := [d1, d2, d3, d4, d5, d6, d7] }
  | _ => none }
def AccrueSumsWrongFalsely : Prop := accrueSumsRow.holds Try.pinned (OpenSpec.ofChange accrueSumsWrong)

/- THE SECOND FORM. 'bulk': how many values and letters a reading holds, each counted each time it is reached (what is shared counts as often as it is met; a slice's spare places count too). A statement '..UptoSaid' is the law's where the arguments, and the package variables that the reading takes, are together of bulk at most 1048576: NARROWER than '..Said'. Prove '..Said' where nothing that the law and all that it calls make is longer than what came in: it says more and counts as full. Else prove '..UptoSaid'. A law counts once. -/
mutual
def uptoBulk {H : Type} : DataW H → Nat
  | .lit (.string bytes) => bytes.length + 1
  | .lit _ => 1
  | .nil => 1
  | .ptr d => uptoBulk d + 1
  | .slice elems spare => uptoBulkAll elems + uptoBulkAll spare + 1
  | .agg parts => uptoBulkAll parts + 1
  | .iface _ d => uptoBulk d + 1
  | .map entries => uptoBulkEntries entries + 1
  | .held _ => 1
def uptoBulkAll {H : Type} : List (DataW H) → Nat
  | [] => 0
  | d :: r => uptoBulk d + uptoBulkAll r
def uptoBulkEntries {H : Type} : List (Lit × DataW H) → Nat
  | [] => 0
  | x :: r => uptoBulkEntry x + uptoBulkEntries r
def uptoBulkEntry {H : Type} : Lit × DataW H → Nat
  | (.string bytes, d) => bytes.length + uptoBulk d + 1
  | (_, d) => uptoBulk d + 1
 end
def uptoSmall : (H : Type) → List (DataW H) → Bool := fun _ ds => decide (uptoBulkAll ds ≤ 1048576)
def OpenSpec.upto (s : _root_.Go.ChangeSpec) : _root_.Go.OpenSpec := { _root_.Go.OpenSpec.ofChange s with cond := some uptoSmall }

/-- 'consollaw09.AccrueTells', WHERE WHAT IT READS IS OF BULK AT MOST 1048576: true; the input reads as it did. -/
def accrueTellsUptoRow : OpenClaim := { program := "ythddpdfljjhfeaa", sum := "1d2eede21a63ea03d416222c468b45a640e465a46304ac4444fc591780e6d1e1", func := "consol/consollaw09.AccrueTells", spec := "accrueTells", apart := false, narrowed := true }
def AccrueTellsUptoSaid : Prop := accrueTellsUptoRow.holds Try.pinned (OpenSpec.upto accrueTellsSpec)

/-- 'consollaw09.AccrueAdds', WHERE WHAT IT READS IS OF BULK AT MOST 1048576: true; the input reads as it did. -/
def accrueAddsUptoRow : OpenClaim := { program := "ythddpdfljjhfeaa", sum := "1d2eede21a63ea03d416222c468b45a640e465a46304ac4444fc591780e6d1e1", func := "consol/consollaw09.AccrueAdds", spec := "accrueAdds", apart := false, narrowed := true }
def AccrueAddsUptoSaid : Prop := accrueAddsUptoRow.holds Try.pinned (OpenSpec.upto accrueAddsSpec)

/-- 'consollaw09.AccrueYears', WHERE WHAT IT READS IS OF BULK AT MOST 1048576: true; the input reads as it did. -/
def accrueYearsUptoRow : OpenClaim := { program := "ythddpdfljjhfeaa", sum := "1d2eede21a63ea03d416222c468b45a640e465a46304ac4444fc591780e6d1e1", func := "consol/consollaw09.AccrueYears", spec := "accrueYears", apart := false, narrowed := true }
def AccrueYearsUptoSaid : Prop := accrueYearsUptoRow.holds Try.pinned (OpenSpec.upto accrueYearsSpec)

/-- 'consollaw09.AccrueGrows', WHERE WHAT IT READS IS OF BULK AT MOST 1048576: true; the input reads as it did. -/
def accrueGrowsUptoRow : OpenClaim := { program := "ythddpdfljjhfeaa", sum := "1d2eede21a63ea03d416222c468b45a640e465a46304ac4444fc591780e6d1e1", func := "consol/consollaw09.AccrueGrows", spec := "accrueGrows", apart := false, narrowed := true }
def AccrueGrowsUptoSaid : Prop := accrueGrowsUptoRow.holds Try.pinned (OpenSpec.upto accrueGrowsSpec)

/-- 'consollaw09.AccrueSums', WHERE WHAT IT READS IS OF BULK AT MOST 1048576: true; the input reads as it did. -/
def accrueSumsUptoRow : OpenClaim := { program := "ythddpdfljjhfeaa", sum := "1d2eede21a63ea03d416222c468b45a640e465a46304ac4444fc591780e6d1e1", func := "consol/consollaw09.AccrueSums", spec := "accrueSums", apart := false, narrowed := true }
def AccrueSumsUptoSaid : Prop := accrueSumsUptoRow.holds Try.pinned (OpenSpec.upto accrueSumsSpec)

end Rows
end Go.Proofs.Ythddpdfljjhfeaa
