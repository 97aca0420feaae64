/-
  No cell of these rows narrows 'for every input' (looked for: loops, veiled, ifaces, maps, wideKeys, modest, calm, conditions, laid).
  DERIVED. THE GIVEN ROWS OF THIS SEAT. 5 by the template 'for every input the law returns true; each argument reads behind the call as it read before'; 0 by the template 'total and deterministic' (their statements: YtceggnkijedonaaTotals.lean).
  GIVEN WITH THE SEED: the statements are not yours to turn. If you find one false, say at which input.
  Laid BY PROGRAM, IN A SANDBOX (cutbox-rows.mjs): the forced cells as the released guide's own fill.sh prints them over the translation 09f54c0644c04955… (all of the seat's roots in one cut). By AI agents, Wed Nov 11 2026. No macro, syntax, notation, axiom, sorry.
-/
import Derived.Test.YtceggnkijedonaaChecked
import GoSem.Claim
import GoSem.ClaimJoined
import GoSem.ClaimMapViews
import Derived.JoinedTies
import Derived.KernelRfl
namespace Go.Proofs.Ytceggnkijedonaa
/- THE CELL 'sum', in the pinned program and in every row, IS THE sha256 OF THE DUMP (.gsa) THAT YtceggnkijedonaaProg.lean LOADS. Nothing in Lean hashes anything: it is a label: what it is worth is what the hold of that sum in a sandbox is worth. -/
noncomputable def Try.pinned : Pinned := { name := "ytceggnkijedonaa", sum := "09f54c0644c049555ee3ad4495b07bdbbb7d6c2587f4c2c7b85e39a4e5bb2897", checked := Try.checked }
namespace Rows
def none {H : Type} : Left H := { results := [], args := [] }

/-- 'consollaw26.BasketTells': WHATEVER THE INPUT: true; the input reads as it did. -/
def basketTellsSpec : ChangeSpec := { name := "basketTells", fn := fun _ => fun
  | [d1, d2, d3, d4, d5, d6] => { results := [.lit (.bool true)], args := [d1, d2, d3, d4, d5, d6] }
  | _ => none }
def basketTellsRow : OpenClaim := { program := "ytceggnkijedonaa", sum := "09f54c0644c049555ee3ad4495b07bdbbb7d6c2587f4c2c7b85e39a4e5bb2897", func := "consol/consollaw26.BasketTells", spec := "basketTells", unfollowed := true, recurses := true, apart := false }
def BasketTellsSaid : Prop := basketTellsRow.holds Try.pinned (OpenSpec.ofChange basketTellsSpec)

/-- ITS FALSE NEIGHBOUR: 'it returns false'. Refute it at one input. -/
def basketTellsWrong : ChangeSpec := { name := "basketTells", fn := fun _ => fun
  | [d1, d2, d3, d4, d5, d6] => { results := [.lit (.bool false)], args := [d1, d2, d3, d4, d5, d6] }
  | _ => none }
def BasketTellsWrongFalsely : Prop := basketTellsRow.holds Try.pinned (OpenSpec.ofChange basketTellsWrong)

/-- 'consollaw26.BasketKeeps': WHATEVER THE INPUT: true; the input reads as it did. -/
def basketKeepsSpec : ChangeSpec := { name := "basketKeeps", fn := fun _ => fun
  | [d1, d2, d3, d4] => { results := [.lit (.bool true)], args := [d1, d2, d3, d4] }
  | _ => none }
def basketKeepsRow : OpenClaim := { program := "ytceggnkijedonaa", sum := "09f54c0644c049555ee3ad4495b07bdbbb7d6c2587f4c2c7b85e39a4e5bb2897", func := "consol/consollaw26.BasketKeeps", spec := "basketKeeps", unfollowed := true, recurses := true, apart := false }
def BasketKeepsSaid : Prop := basketKeepsRow.holds Try.pinned (OpenSpec.ofChange basketKeepsSpec)

/-- ITS FALSE NEIGHBOUR: 'it returns false'. Refute it at one input. -/
def basketKeepsWrong : ChangeSpec := { name := "basketKeeps", fn := fun _ => fun
  | [d1, d2, d3, d4] => { results := [.lit (.bool false)], args := [d1, d2, d3, d4] }
  | _ => none }
def BasketKeepsWrongFalsely : Prop := basketKeepsRow.holds Try.pinned (OpenSpec.ofChange basketKeepsWrong)

/-- 'consollaw26.BasketShares': WHATEVER THE INPUT: true; the input reads as it did. -/
def basketSharesSpec : ChangeSpec := { name := "basketShares", fn := fun _ => fun
  | [d1, d2, d3, d4, d5, d6, d7] => { results := [.lit (.bool true)], args := [d1, d2, d3, d4, d5, d6, d7] }
  | _ => none }
def basketSharesRow : OpenClaim := { program := "ytceggnkijedonaa", sum := "09f54c0644c049555ee3ad4495b07bdbbb7d6c2587f4c2c7b85e39a4e5bb2897", func := "consol/consollaw26.BasketShares", spec := "basketShares", unfollowed := true, recurses := true, apart := false }
def BasketSharesSaid : Prop := basketSharesRow.holds Try.pinned (OpenSpec.ofChange basketSharesSpec)

/-- ITS FALSE NEIGHBOUR: 'it returns false'. Refute it at one input. -/
def basketSharesWrong : ChangeSpec := { name := "basketShares", fn := fun _ => fun
  | [d1, d2, d3, d4, d5, d6, d7] => { results := [.lit (.bool false)], args := [d1, d2, d3, d4, d5, d6, d7] }
  | _ => none }
def BasketSharesWrongFalsely : Prop := basketSharesRow.holds Try.pinned (OpenSpec.ofChange basketSharesWrong)

/-- 'consollaw26.BasketBounds': WHATEVER THE INPUT: true; the input reads as it did. -/
def basketBoundsSpec : ChangeSpec := { name := "basketBounds", fn := fun _ => fun
  | [d1, d2, d3, d4, d5] => { results := [.lit (.bool true)], args := [d1, d2, d3, d4, d5] }
  | _ => none }
def basketBoundsRow : OpenClaim := { program := "ytceggnkijedonaa", sum := "09f54c0644c049555ee3ad4495b07bdbbb7d6c2587f4c2c7b85e39a4e5bb2897", func := "consol/consollaw26.BasketBounds", spec := "basketBounds", unfollowed := true, recurses := true, apart := false }
def BasketBoundsSaid : Prop := basketBoundsRow.holds Try.pinned (OpenSpec.ofChange basketBoundsSpec)

/-- ITS FALSE NEIGHBOUR: 'it returns false'. Refute it at one input. -/
def basketBoundsWrong : ChangeSpec := { name := "basketBounds", fn := fun _ => fun
  | [d1, d2, d3, d4, d5] => { results := [.lit (.bool false)], args := [d1, d2, d3, d4, d5] }
  | _ => none }
def BasketBoundsWrongFalsely : Prop := basketBoundsRow.holds Try.pinned (OpenSpec.ofChange basketBoundsWrong)

/-- 'consollaw26.BasketReports': WHATEVER THE INPUT: true; the input reads as it did. -/
def basketReportsSpec : ChangeSpec := { name := "basketReports", fn := fun _ => fun
  | [d1, d2, d3, d4, d5] => { results := [.lit (.bool true)], args := [d1, d2, d3, d4, d5] }
  | _ => none }
def basketReportsRow : OpenClaim := { program := "ytceggnkijedonaa", sum := "09f54c0644c049555ee3ad4495b07bdbbb7d6c2587f4c2c7b85e39a4e5bb2897", func := "consol/consollaw26.BasketReports", spec := "basketReports", unfollowed := true, recurses := true, apart := false }
def BasketReportsSaid : Prop := basketReportsRow.holds Try.pinned (OpenSpec.ofChange basketReportsSpec)

/-- ITS FALSE NEIGHBOUR: 'it returns false'. Refute it at one input. -/
def basketReportsWrong : ChangeSpec := { name := "basketReports", fn := fun _ => fun
  | [d1, d2, d3, d4, d5] => { results := [.lit (.bool false)], args := [d1, d2, d3, d4, d5] }
  | _ => none }
def BasketReportsWrongFalsely : Prop := basketReportsRow.holds Try.pinned (OpenSpec.ofChange basketReportsWrong)

/- THE SECOND FORM. 'bulk': how many values and letters a reading holds, each counted each time it is reached (what is shared counts as often as it is met; a slice's spare places count too). A statement '..UptoSaid' is the law's where the arguments, and the package variables that the reading takes, are together of bulk at most 1048576: NARROWER than '..Said'. Prove '..Said' where nothing that the law and all that it calls make is longer than what came in: it says more and counts as full. Else prove '..UptoSaid'. A law counts once. -/
mutual
def uptoBulk {H : Type} : DataW H → Nat
  | .lit (.string bytes) => bytes.length + 1
  | .lit _ => 1
  | .nil => 1
  | .ptr d => uptoBulk d + 1
  | .slice elems spare => uptoBulkAll elems + uptoBulkAll spare + 1
  | .agg parts => uptoBulkAll parts + 1
  | .iface _ d => uptoBulk d + 1
  | .map entries => uptoBulkEntries entries + 1
  | .held _ => 1
def uptoBulkAll {H : Type} : List (DataW H) → Nat
  | [] => 0
  | d :: r => uptoBulk d + uptoBulkAll r
def uptoBulkEntries {H : Type} : List (Lit × DataW H) → Nat
  | [] => 0
  | x :: r => uptoBulkEntry x + uptoBulkEntries r
def uptoBulkEntry {H : Type} : Lit × DataW H → Nat
  | (.string bytes, d) => bytes.length + uptoBulk d + 1
  | (_, d) => uptoBulk d + 1
 end
def uptoSmall : (H : Type) → List (DataW H) → Bool := fun _ ds => decide (uptoBulkAll ds ≤ 1048576)
def OpenSpec.upto (s : _root_.Go.ChangeSpec) : _root_.Go.OpenSpec := { _root_.Go.OpenSpec.ofChange s with cond := some uptoSmall }

/-- 'consollaw26.BasketTells', WHERE WHAT IT READS IS OF BULK AT MOST 1048576: true; the input reads as it did. -/
def basketTellsUptoRow : OpenClaim := { program := "ytceggnkijedonaa", sum := "09f54c0644c049555ee3ad4495b07bdbbb7d6c2587f4c2c7b85e39a4e5bb2897", func := "consol/consollaw26.BasketTells", spec := "basketTells", unfollowed := true, recurses := true, apart := false, narrowed := true }
def BasketTellsUptoSaid : Prop := basketTellsUptoRow.holds Try.pinned (OpenSpec.upto basketTellsSpec)

/-- 'consollaw26.BasketKeeps', WHERE WHAT IT READS IS OF BULK AT MOST 1048576: true; the input reads as it did. -/
def basketKeepsUptoRow : OpenClaim := { program := "ytceggnkijedonaa", sum := "09f54c0644c049555ee3ad4495b07bdbbb7d6c2587f4c2c7b85e39a4e5bb2897", func := "consol/consollaw26.BasketKeeps", spec := "basketKeeps", unfollowed := true, recurses := true, apart := false, narrowed := true }
def BasketKeepsUptoSaid : Prop := basketKeepsUptoRow.holds Try.pinned (OpenSpec.upto basketKeepsSpec)

/-- 'consollaw26.BasketShares', WHERE WHAT IT READS IS OF BULK AT MOST 1048576: true; the input reads as it did. -/
def basketSharesUptoRow : OpenClaim := { program := "ytceggnkijedonaa", sum := "09f54c0644c049555ee3ad4495b07bdbbb7d6c2587f4c2c7b85e39a4e5bb2897", func := "consol/consollaw26.BasketShares", spec := "basketShares", unfollowed := true, recurses := true, apart := false, narrowed := true }
def BasketSharesUptoSaid : Prop := basketSharesUptoRow.holds Try.pinned (OpenSpec.upto basketSharesSpec)

/-- 'consollaw26.BasketBounds', WHERE WHAT IT READS IS OF BULK AT MOST 1048576: true; the input reads as it did. -/
def basketBoundsUptoRow : OpenClaim := { program := "ytceggnkijedonaa", sum := "09f54c0644c049555ee3ad4495b07bdbbb7d6c2587f4c2c7b85e39a4e5bb2897", func := "consol/consollaw26.BasketBounds", spec := "basketBounds", unfollowed := true, recurses := true, apart := false, narrowed := true }
def BasketBoundsUptoSaid : Prop := basketBoundsUptoRow.holds Try.pinned (OpenSpec.upto basketBoundsSpec)

/-- 'consollaw26.BasketReports', WHERE WHAT IT READS IS OF BULK AT MOST 1048576: true; the input reads as it did. -/
def basketReportsUptoRow : OpenClaim := { program := "ytceggnkijedonaa", sum := "09f54c0644c049555ee3ad4495b07bdbbb7d6c2587f4c2c7b85e39a4e5bb2897", func := "consol/consollaw26.BasketReports", spec := "basketReports", unfollowed := true, recurses := true, apart := false, narrowed := true }
def BasketReportsUptoSaid : Prop := basketReportsUptoRow.holds Try.pinned (OpenSpec.upto basketReportsSpec)

end Rows
end Go.Proofs.Ytceggnkijedonaa
