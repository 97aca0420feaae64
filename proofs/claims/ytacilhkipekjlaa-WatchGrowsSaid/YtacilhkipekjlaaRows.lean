/-
  NARROWER THAN 'FOR EVERY INPUT', by the rows' own cells (each row's printed sentence says how): WatchTells: loops · WatchGrows: loops · WatchPast: loops · WatchDual: loops.
  DERIVED. THE GIVEN ROWS OF THIS SEAT. 4 by the template 'for every input the law returns true; each argument reads behind the call as it read before'; 0 by the template 'total and deterministic' (their statements: YtacilhkipekjlaaTotals.lean).
  GIVEN WITH THE SEED: the statements are not yours to turn. If you find one false, say at which input.
  Laid BY PROGRAM, IN A SANDBOX (cutbox-rows.mjs): the forced cells as the released guide's own fill.sh prints them over the translation 4c8da0cfcd164144… (all of the seat's roots in one cut). By AI agents, Wed Nov 11 2026. No macro, syntax, notation, axiom, sorry.
-/
import Derived.Test.YtacilhkipekjlaaChecked
import GoSem.Claim
import GoSem.ClaimJoined
import GoSem.ClaimMapViews
import Derived.JoinedTies
import Derived.KernelRfl
namespace Go.Proofs.Ytacilhkipekjlaa
/- THE CELL 'sum', in the pinned program and in every row, IS THE sha256 OF THE DUMP (.gsa) THAT YtacilhkipekjlaaProg.lean LOADS. Nothing in Lean hashes anything: it is a label: what it is worth is what the hold of that sum in a sandbox is worth. -/
noncomputable def Try.pinned : Pinned := { name := "ytacilhkipekjlaa", sum := "4c8da0cfcd164144f845a14b607036ee64806f379fb7ca41fc8ca437ccb6645d", checked := Try.checked }
namespace Rows
def none {H : Type} : Left H := { results := [], args := [] }

/-- 'consollaw25.WatchTells': WHATEVER THE INPUT: true; the input reads as it did. -/
def watchTellsSpec : ChangeSpec := { name := "watchTells", fn := fun _ => fun
  | [d1, d2, d3] => { results := [.lit (.bool true)], args := [d1, d2, d3] }
  | _ => none }
def watchTellsRow : OpenClaim := { program := "ytacilhkipekjlaa", sum := "4c8da0cfcd164144f845a14b607036ee64806f379fb7ca41fc8ca437ccb6645d", func := "consol/consollaw25.WatchTells", spec := "watchTells", unfollowed := true, recurses := true, loops := true, apart := false }
def WatchTellsSaid : Prop := watchTellsRow.holds Try.pinned (OpenSpec.ofChange watchTellsSpec)

/-- ITS FALSE NEIGHBOUR: 'it returns false'. Refute it at one input. -/
def watchTellsWrong : ChangeSpec := { name := "watchTells", fn := fun _ => fun
  | [d1, d2, d3] => { results := [.lit (.bool false)], args := [d1, d2, d3] }
  | _ => none }
def WatchTellsWrongFalsely : Prop := watchTellsRow.holds Try.pinned (OpenSpec.ofChange watchTellsWrong)

/-- 'consollaw25.WatchGrows': WHATEVER THE INPUT: true; the input reads as it did. -/
def watchGrowsSpec : ChangeSpec := { name := "watchGrows", fn := fun _ => fun
  | [d1, d2, d3, d4, d5] => { results := [.lit (.bool true)], args := [d1, d2, d3, d4, d5] }
  | _ => none }
def watchGrowsRow : OpenClaim := { program := "ytacilhkipekjlaa", sum := "4c8da0cfcd164144f845a14b607036ee64806f379fb7ca41fc8ca437ccb6645d", func := "consol/consollaw25.WatchGrows", spec := "watchGrows", unfollowed := true, recurses := true, loops := true, apart := false }
def WatchGrowsSaid : Prop := watchGrowsRow.holds Try.pinned (OpenSpec.ofChange watchGrowsSpec)

/-- ITS FALSE NEIGHBOUR: 'it returns false'. Refute it at one input. -/
def watchGrowsWrong : ChangeSpec := { name := "watchGrows", fn := fun _ => fun
  | [d1, d2, d3, d4, d5] => { results := [.lit (.bool false)], args := [d1, d2, d3, d4, d5] }
  | _ => none }
def WatchGrowsWrongFalsely : Prop := watchGrowsRow.holds Try.pinned (OpenSpec.ofChange watchGrowsWrong)

/-- 'consollaw25.WatchPast': WHATEVER THE INPUT: true; the input reads as it did. -/
def watchPastSpec : ChangeSpec := { name := "watchPast", fn := fun _ => fun
  | [d1, d2, d3, d4] => { results := [.lit (.bool true)], args := [d1, d2, d3, d4] }
  | _ => none }
def watchPastRow : OpenClaim := { program := "ytacilhkipekjlaa", sum := "4c8da0cfcd164144f845a14b607036ee64806f379fb7ca41fc8ca437ccb6645d", func := "consol/consollaw25.WatchPast", spec := "watchPast", unfollowed := true, recurses := true, loops := true, apart := false }
def WatchPastSaid : Prop := watchPastRow.holds Try.pinned (OpenSpec.ofChange watchPastSpec)

/-- ITS FALSE NEIGHBOUR: 'it returns false'. Refute it at one input. -/
def watchPastWrong : ChangeSpec := { name := "watchPast", fn := fun _ => fun
  | [d1, d2, d3, d4] => { results := [.lit (.bool false)], args := [d1, d2, d3, d4] }
  | _ => none }
def WatchPastWrongFalsely : Prop := watchPastRow.holds Try.pinned (OpenSpec.ofChange watchPastWrong)

/-- 'consollaw25.WatchDual': WHATEVER THE INPUT: true; the input reads as it did. -/
def watchDualSpec : ChangeSpec := { name := "watchDual", fn := fun _ => fun
  | [d1, d2, d3, d4] => { results := [.lit (.bool true)], args := [d1, d2, d3, d4] }
  | _ => none }
def watchDualRow : OpenClaim := { program := "ytacilhkipekjlaa", sum := "4c8da0cfcd164144f845a14b607036ee64806f379fb7ca41fc8ca437ccb6645d", func := "consol/consollaw25.WatchDual", spec := "watchDual", unfollowed := true, recurses := true, loops := true, apart := false }
def WatchDualSaid : Prop := watchDualRow.holds Try.pinned (OpenSpec.ofChange watchDualSpec)

/-- ITS FALSE NEIGHBOUR: 'it returns false'. Refute it at one input. -/
def watchDualWrong : ChangeSpec := { name := "watchDual", fn := fun _ => fun
  | [d1, d2, d3, d4] => { results := [.lit (.bool false)], args := [d1, d2, d3, d4] }
  | _ => none }
def WatchDualWrongFalsely : Prop := watchDualRow.holds Try.pinned (OpenSpec.ofChange watchDualWrong)

/- THE SECOND FORM. 'bulk': how many values and letters a reading holds, each counted each time it is reached (what is shared counts as often as it is met; a slice's spare places count too). A statement '..UptoSaid' is the law's where the arguments, and the package variables that the reading takes, are together of bulk at most 1048576: NARROWER than '..Said'. Prove '..Said' where nothing that the law and all that it calls make is longer than what came in: it says more and counts as full. Else prove '..UptoSaid'. A law counts once. -/
mutual
def uptoBulk {H : Type} : DataW H → Nat
  | .lit (.string bytes) => bytes.length + 1
  | .lit _ => 1
  | .nil => 1
  | .ptr d => uptoBulk d + 1
  | .slice elems spare => uptoBulkAll elems + uptoBulkAll spare + 1
  | .agg parts => uptoBulkAll parts + 1
  | .iface _ d => uptoBulk d + 1
  | .map entries => uptoBulkEntries entries + 1
  | .held _ => 1
def uptoBulkAll {H : Type} : List (DataW H) → Nat
  | [] => 0
  | d :: r => uptoBulk d + uptoBulkAll r
def uptoBulkEntries {H : Type} : List (Lit × DataW H) → Nat
  | [] => 0
  | x :: r => uptoBulkEntry x + uptoBulkEntries r
def uptoBulkEntry {H : Type} : Lit × DataW H → Nat
  | (.string bytes, d) => bytes.length + uptoBulk d + 1
  | (_, d) => uptoBulk d + 1
 end
def uptoSmall : (H : Type) → List (DataW H) → Bool := fun _ ds => decide (uptoBulkAll ds ≤ 1048576)
def OpenSpec.upto (s : _root_.Go.ChangeSpec) : _root_.Go.OpenSpec := { _root_.Go.OpenSpec.ofChange s with cond := some uptoSmall }

/-- 'consollaw25.WatchTells', WHERE WHAT IT READS IS OF BULK AT MOST 1048576: true; the input reads as it did. -/
def watchTellsUptoRow : OpenClaim := { program := "ytacilhkipekjlaa", sum := "4c8da0cfcd164144f845a14b607036ee64806f379fb7ca41fc8ca437ccb6645d", func := "consol/consollaw25.WatchTells", spec := "watchTells", unfollowed := true, recurses := true, loops := true, apart := false, narrowed := true }
def WatchTellsUptoSaid : Prop := watchTellsUptoRow.holds Try.pinned (OpenSpec.upto watchTellsSpec)

/-- 'consollaw25.WatchGrows', WHERE WHAT IT READS IS OF BULK AT MOST 1048576: true; the input reads as it did. -/
def watchGrowsUptoRow : OpenClaim := { program := "ytacilhkipekjlaa", sum := "4c8da0cfcd164144f845a14b607036ee64806f379fb7ca41fc8ca437ccb6645d", func := "consol/consollaw25.WatchGrows", spec := "watchGrows", unfollowed := true, recurses := true, loops := true, apart := false, narrowed := true }
def WatchGrowsUptoSaid : Prop := watchGrowsUptoRow.holds Try.pinned (OpenSpec.upto watchGrowsSpec)

/-- 'consollaw25.WatchPast', WHERE WHAT IT READS IS OF BULK AT MOST 1048576: true; the input reads as it did. -/
def watchPastUptoRow : OpenClaim := { program := "ytacilhkipekjlaa", sum := "4c8da0cfcd164144f845a14b607036ee64806f379fb7ca41fc8ca437ccb6645d", func := "consol/consollaw25.WatchPast", spec := "watchPast", unfollowed := true, recurses := true, loops := true, apart := false, narrowed := true }
def WatchPastUptoSaid : Prop := watchPastUptoRow.holds Try.pinned (OpenSpec.upto watchPastSpec)

/-- 'consollaw25.WatchDual', WHERE WHAT IT READS IS OF BULK AT MOST 1048576: true; the input reads as it did. -/
def watchDualUptoRow : OpenClaim := { program := "ytacilhkipekjlaa", sum := "4c8da0cfcd164144f845a14b607036ee64806f379fb7ca41fc8ca437ccb6645d", func := "consol/consollaw25.WatchDual", spec := "watchDual", unfollowed := true, recurses := true, loops := true, apart := false, narrowed := true }
def WatchDualUptoSaid : Prop := watchDualUptoRow.holds Try.pinned (OpenSpec.upto watchDualSpec)

end Rows
end Go.Proofs.Ytacilhkipekjlaa
