/-
  No cell of these rows narrows 'for every input' (looked for: loops, veiled, ifaces, maps, wideKeys, modest, calm, conditions, laid).
  DERIVED. THE GIVEN ROWS OF THIS SEAT. 4 by the template 'for every input the law returns true; each argument reads behind the call as it read before'; 0 by the template 'total and deterministic' (their statements: YtanhmeedgophcaaTotals.lean).
  GIVEN WITH THE SEED: the statements are not yours to turn. If you find one false, say at which input.
  Laid BY PROGRAM, IN A SANDBOX (cutbox-rows.mjs): the forced cells as the released guide's own fill.sh prints them over the translation 0f3b087aed4c9348… (all of the seat's roots in one cut). By AI agents, Wed Nov 11 2026. No macro, syntax, notation, axiom, sorry.
-/
import Derived.Test.YtanhmeedgophcaaChecked
import GoSem.Claim
import GoSem.ClaimJoined
import GoSem.ClaimMapViews
import Derived.JoinedTies
import Derived.KernelRfl
namespace Go.Proofs.Ytanhmeedgophcaa
/- THE CELL 'sum', in the pinned program and in every row, IS THE sha256 OF THE DUMP (.gsa) THAT YtanhmeedgophcaaProg.lean LOADS. Nothing in Lean hashes anything: it is a label: what it is worth is what the hold of that sum in a sandbox is worth. -/
noncomputable def Try.pinned : Pinned := { name := "ytanhmeedgophcaa", sum := "0f3b087aed4c9348c8ad83cdb222c8771fa56437f85528fc130c3d16a59488d2", checked := Try.checked }
namespace Rows
def none {H : Type} : Left H := { results := [], args := [] }

/-- 'consollaw35.VoteTells': WHATEVER THE INPUT: true; the input reads as it did. -/
def voteTellsSpec : ChangeSpec := { name := "voteTells", fn := fun _ => fun
  | [d1, d2, d3, d4, d5, d6, d7] => { results := [.lit (.bool true)], args := [d1, d2, d3, d4, d5, d6, d7] }
  | _ => none }
def voteTellsRow : OpenClaim := { program := "ytanhmeedgophcaa", sum := "0f3b087aed4c9348c8ad83cdb222c8771fa56437f85528fc130c3d16a59488d2", func := "consol/consollaw35.VoteTells", spec := "voteTells", apart := false }
def VoteTellsSaid : Prop := voteTellsRow.holds Try.pinned (OpenSpec.ofChange voteTellsSpec)

/-- ITS FALSE NEIGHBOUR: 'it returns false'. Refute it at one input. -/
def voteTellsWrong : ChangeSpec := { name := "voteTells", fn := fun _ => fun
  | [d1, d2, d3, d4, d5, d6, d7] => { results := [.lit (.bool false)], args := [d1, d2, d3, d4, d5, d6, d7] }
  | _ => none }
def VoteTellsWrongFalsely : Prop := voteTellsRow.holds Try.pinned (OpenSpec.ofChange voteTellsWrong)

/-- 'consollaw35.VoteLast': WHATEVER THE INPUT: true; the input reads as it did. -/
def voteLastSpec : ChangeSpec := { name := "voteLast", fn := fun _ => fun
  | [d1, d2, d3, d4] => { results := [.lit (.bool true)], args := [d1, d2, d3, d4] }
  | _ => none }
def voteLastRow : OpenClaim := { program := "ytanhmeedgophcaa", sum := "0f3b087aed4c9348c8ad83cdb222c8771fa56437f85528fc130c3d16a59488d2", func := "consol/consollaw35.VoteLast", spec := "voteLast", apart := false }
def VoteLastSaid : Prop := voteLastRow.holds Try.pinned (OpenSpec.ofChange voteLastSpec)

/-- ITS FALSE NEIGHBOUR: 'it returns false'. Refute it at one input. -/
def voteLastWrong : ChangeSpec := { name := "voteLast", fn := fun _ => fun
  | [d1, d2, d3, d4] => { results := [.lit (.bool false)], args := [d1, d2, d3, d4] }
  | _ => none }
def VoteLastWrongFalsely : Prop := voteLastRow.holds Try.pinned (OpenSpec.ofChange voteLastWrong)

/-- 'consollaw35.VoteUntil': WHATEVER THE INPUT: true; the input reads as it did. -/
def voteUntilSpec : ChangeSpec := { name := "voteUntil", fn := fun _ => fun
  | [d1, d2, d3, d4] => { results := [.lit (.bool true)], args := [d1, d2, d3, d4] }
  | _ => none }
def voteUntilRow : OpenClaim := { program := "ytanhmeedgophcaa", sum := "0f3b087aed4c9348c8ad83cdb222c8771fa56437f85528fc130c3d16a59488d2", func := "consol/consollaw35.VoteUntil", spec := "voteUntil", apart := false }
def VoteUntilSaid : Prop := voteUntilRow.holds Try.pinned (OpenSpec.ofChange voteUntilSpec)

/-- ITS FALSE NEIGHBOUR: 'it returns false'. Refute it at one input. -/
def voteUntilWrong : ChangeSpec := { name := "voteUntil", fn := fun _ => fun
  | [d1, d2, d3, d4] => { results := [.lit (.bool false)], args := [d1, d2, d3, d4] }
  | _ => none }
def VoteUntilWrongFalsely : Prop := voteUntilRow.holds Try.pinned (OpenSpec.ofChange voteUntilWrong)

/-- 'consollaw35.VoteMajority': WHATEVER THE INPUT: true; the input reads as it did. -/
def voteMajoritySpec : ChangeSpec := { name := "voteMajority", fn := fun _ => fun
  | [d1, d2, d3, d4] => { results := [.lit (.bool true)], args := [d1, d2, d3, d4] }
  | _ => none }
def voteMajorityRow : OpenClaim := { program := "ytanhmeedgophcaa", sum := "0f3b087aed4c9348c8ad83cdb222c8771fa56437f85528fc130c3d16a59488d2", func := "consol/consollaw35.VoteMajority", spec := "voteMajority", apart := false }
def VoteMajoritySaid : Prop := voteMajorityRow.holds Try.pinned (OpenSpec.ofChange voteMajoritySpec)

/-- ITS FALSE NEIGHBOUR: 'it returns false'. Refute it at one input. -/
def voteMajorityWrong : ChangeSpec := { name := "voteMajority", fn := fun _ => fun
  | [d1, d2, d3, d4] => { results := [.lit (.bool false)], args := [d1, d2, d3, d4] }
  | _ => none }
def VoteMajorityWrongFalsely : Prop := voteMajorityRow.holds Try.pinned (OpenSpec.ofChange voteMajorityWrong)

/- THE SECOND FORM. 'bulk': how many values and letters a reading holds, each counted each time it is reached (what is shared counts as often as it is met; a slice's spare places count too). A statement '..UptoSaid' is the law's where the arguments, and the package variables that the reading takes, are together of bulk at most 1048576: NARROWER than '..Said'. Prove '..Said' where nothing that the law and all that it calls make is longer than what came in: it says more and counts as full. Else prove '..UptoSaid'. A law counts once. -/
mutual
def uptoBulk {H : Type} : DataW H → Nat
  | .lit (.string bytes) => bytes.length + 1
  | .lit _ => 1
  | .nil => 1
  | .ptr d => uptoBulk d + 1
  | .slice elems spare => uptoBulkAll elems + uptoBulkAll spare + 1
  | .agg parts => uptoBulkAll parts + 1
  | .iface _ d => uptoBulk d + 1
  | .map entries => uptoBulkEntries entries + 1
  | .held _ => 1
def uptoBulkAll {H : Type} : List (DataW H) → Nat
  | [] => 0
  | d :: r => uptoBulk d + uptoBulkAll r
def uptoBulkEntries {H : Type} : List (Lit × DataW H) → Nat
  | [] => 0
  | x :: r => uptoBulkEntry x + uptoBulkEntries r
def uptoBulkEntry {H : Type} : Lit × DataW H → Nat
  | (.string bytes, d) => bytes.length + uptoBulk d + 1
  | (_, d) => uptoBulk d + 1
 end
def uptoSmall : (H : Type) → List (DataW H) → Bool := fun _ ds => decide (uptoBulkAll ds ≤ 1048576)
def OpenSpec.upto (s : _root_.Go.ChangeSpec) : _root_.Go.OpenSpec := { _root_.Go.OpenSpec.ofChange s with cond := some uptoSmall }

/-- 'consollaw35.VoteTells', WHERE WHAT IT READS IS OF BULK AT MOST 1048576: true; the input reads as it did. -/
def voteTellsUptoRow : OpenClaim := { program := "ytanhmeedgophcaa", sum := "0f3b087aed4c9348c8ad83cdb222c8771fa56437f85528fc130c3d16a59488d2", func := "consol/consollaw35.VoteTells", spec := "voteTells", apart := false, narrowed := true }
def VoteTellsUptoSaid : Prop := voteTellsUptoRow.holds Try.pinned (OpenSpec.upto voteTellsSpec)

/-- 'consollaw35.VoteLast', WHERE WHAT IT READS IS OF BULK AT MOST 1048576: true; the input reads as it did. -/
def voteLastUptoRow : OpenClaim := { program := "ytanhmeedgophcaa", sum := "0f3b087aed4c9348c8ad83cdb222c8771fa56437f85528fc130c3d16a59488d2", func := "consol/consollaw35.VoteLast", spec := "voteLast", apart := false, narrowed := true }
def VoteLastUptoSaid : Prop := voteLastUptoRow.holds Try.pinned (OpenSpec.upto voteLastSpec)

/-- 'consollaw35.VoteUntil', WHERE WHAT IT READS IS OF BULK AT MOST 1048576: true; the input reads as it did. -/
def voteUntilUptoRow : OpenClaim := { program := "ytanhmeedgophcaa", sum := "0f3b087aed4c9348c8ad83cdb222c8771fa56437f85528fc130c3d16a59488d2", func := "consol/consollaw35.VoteUntil", spec := "voteUntil", apart := false, narrowed := true }
def VoteUntilUptoSaid : Prop := voteUntilUptoRow.holds Try.pinned (OpenSpec.upto voteUntilSpec)

/-- 'consollaw35.VoteMajority', WHERE WHAT IT READS IS OF BULK AT MOST 1048576: true; the input reads as it did. -/
def voteMajorityUptoRow : OpenClaim := { program := "ytanhmeedgophcaa", sum := "0f3b087aed4c9348c8ad83cdb222c8771fa56437f85528fc130c3d16a59488d2", func := "consol/consollaw35.VoteMajority", spec := "voteMajority", apart := false, narrowed := true }
def VoteMajorityUptoSaid : Prop := voteMajorityUptoRow.holds Try.pinned (OpenSpec.upto voteMajoritySpec)

end Rows
end Go.Proofs.Ytanhmeedgophcaa
