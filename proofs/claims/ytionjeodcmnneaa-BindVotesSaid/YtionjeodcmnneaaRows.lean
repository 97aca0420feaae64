/-
  NARROWER THAN 'FOR EVERY INPUT', by the rows' own cells (each row's printed sentence says how): BindTells: loops · BindOwn: loops · BindApart: loops · BindMore: loops · BindVotes: loops.
  DERIVED. THE GIVEN ROWS OF THIS SEAT. 5 by the template 'for every input the law returns true; each argument reads behind the call as it read before'; 0 by the template 'total and deterministic' (their statements: YtionjeodcmnneaaTotals.lean).
  GIVEN WITH THE SEED: the statements are not yours to turn. If you find one false, say at which input.
  Laid BY PROGRAM, IN A SANDBOX (cutbox-rows.mjs): the forced cells as the released guide's own fill.sh prints them over the translation 9c5c282828a49069… (all of the seat's roots in one cut). By AI agents, Wed Nov 11 2026. No macro, syntax, notation, axiom, sorry.
-/
import Derived.Test.YtionjeodcmnneaaChecked
import GoSem.Claim
import GoSem.ClaimJoined
import GoSem.ClaimMapViews
import Derived.JoinedTies
import Derived.KernelRfl
namespace Go.Proofs.Ytionjeodcmnneaa
/- THE CELL 'sum', in the pinned program and in every row, IS THE sha256 OF THE DUMP (.gsa) THAT YtionjeodcmnneaaProg.lean LOADS. Nothing in Lean hashes anything: it is a label: what it is worth is what the hold of that sum in a sandbox is worth. -/
noncomputable def Try.pinned : Pinned := { name := "ytionjeodcmnneaa", sum := "9c5c282828a49069e0ff87ae05a1c77680a1b1ac1007d244b6ade939e45ab73f", checked := Try.checked }
namespace Rows
def none {H : Type} : Left H := { results := [], args := [] }

/-- 'consollaw38.BindTells': WHATEVER THE INPUT: true; the input reads as it did. -/
def bindTellsSpec : ChangeSpec := { name := "bindTells", fn := fun _ => fun
  | [d1, d2, d3, d4] => { results := [.lit (.bool true)], args := [d1, d2, d3, d4] }
  | _ => none }
def bindTellsRow : OpenClaim := { program := "ytionjeodcmnneaa", sum := "9c5c282828a49069e0ff87ae05a1c77680a1b1ac1007d244b6ade939e45ab73f", func := "consol/consollaw38.BindTells", spec := "bindTells", unfollowed := true, recurses := true, loops := true, apart := false }
def BindTellsSaid : Prop := bindTellsRow.holds Try.pinned (OpenSpec.ofChange bindTellsSpec)

/-- ITS FALSE NEIGHBOUR: 'it returns false'. Refute it at one input. -/
def bindTellsWrong : ChangeSpec := { name := "bindTells", fn := fun _ => fun
  | [d1, d2, d3, d4] => { results := [.lit (.bool false)], args := [d1, d2, d3, d4] }
  | _ => none }
def BindTellsWrongFalsely : Prop := bindTellsRow.holds Try.pinned (OpenSpec.ofChange bindTellsWrong)

/-- 'consollaw38.BindOwn': WHATEVER THE INPUT: true; the input reads as it did. -/
def bindOwnSpec : ChangeSpec := { name := "bindOwn", fn := fun _ => fun
  | [d1, d2, d3, d4] => { results := [.lit (.bool true)], args := [d1, d2, d3, d4] }
  | _ => none }
def bindOwnRow : OpenClaim := { program := "ytionjeodcmnneaa", sum := "9c5c282828a49069e0ff87ae05a1c77680a1b1ac1007d244b6ade939e45ab73f", func := "consol/consollaw38.BindOwn", spec := "bindOwn", unfollowed := true, recurses := true, loops := true, apart := false }
def BindOwnSaid : Prop := bindOwnRow.holds Try.pinned (OpenSpec.ofChange bindOwnSpec)

/-- ITS FALSE NEIGHBOUR: 'it returns false'. Refute it at one input. -/
def bindOwnWrong : ChangeSpec := { name := "bindOwn", fn := fun _ => fun
  | [d1, d2, d3, d4] => { results := [.lit (.bool false)], args := [d1, d2, d3, d4] }
  | _ => none }
def BindOwnWrongFalsely : Prop := bindOwnRow.holds Try.pinned (OpenSpec.ofChange bindOwnWrong)

/-- 'consollaw38.BindApart': WHATEVER THE INPUT: true; the input reads as it did. -/
def bindApartSpec : ChangeSpec := { name := "bindApart", fn := fun _ => fun
  | [d1, d2, d3, d4, d5] => { results := [.lit (.bool true)], args := [d1, d2, d3, d4, d5] }
  | _ => none }
def bindApartRow : OpenClaim := { program := "ytionjeodcmnneaa", sum := "9c5c282828a49069e0ff87ae05a1c77680a1b1ac1007d244b6ade939e45ab73f", func := "consol/consollaw38.BindApart", spec := "bindApart", unfollowed := true, recurses := true, loops := true, apart := false }
def BindApartSaid : Prop := bindApartRow.holds Try.pinned (OpenSpec.ofChange bindApartSpec)

/-- ITS FALSE NEIGHBOUR: 'it returns false'. Refute it at one input. -/
def bindApartWrong : ChangeSpec := { name := "bindApart", fn := fun _ => fun
  | [d1, d2, d3, d4, d5] => { results := [.lit (.bool false)], args := [d1, d2, d3, d4, d5] }
  | _ => none }
def BindApartWrongFalsely : Prop := bindApartRow.holds Try.pinned (OpenSpec.ofChange bindApartWrong)

/-- 'consollaw38.BindMore': WHATEVER THE INPUT: true; the input reads as it did. -/
def bindMoreSpec : ChangeSpec := { name := "bindMore", fn := fun _ => fun
  | [d1, d2, d3, d4, d5, d6] => { results := [.lit (.bool true)], args := [d1, d2, d3, d4, d5, d6] }
  | _ => none }
def bindMoreRow : OpenClaim := { program := "ytionjeodcmnneaa", sum := "9c5c282828a49069e0ff87ae05a1c77680a1b1ac1007d244b6ade939e45ab73f", func := "consol/consollaw38.BindMore", spec := "bindMore", unfollowed := true, recurses := true, loops := true, apart := false }
def BindMoreSaid : Prop := bindMoreRow.holds Try.pinned (OpenSpec.ofChange bindMoreSpec)

/-- ITS FALSE NEIGHBOUR: 'it returns false'. Refute it at one input. -/
def bindMoreWrong : ChangeSpec := { name := "bindMore", fn := fun _ => fun
  | [d1, d2, d3, d4, d5, d6] => { results := [.lit (.bool false)], args := [d1, d2, d3, d4, d5, d6] }
  | _ => none }
def BindMoreWrongFalsely : Prop := bindMoreRow.holds Try.pinned (OpenSpec.ofChange bindMoreWrong)

/-- 'consollaw38.BindVotes': WHATEVER THE INPUT: true; the input reads as it did. -/
def bindVotesSpec : ChangeSpec := { name := "bindVotes", fn := fun _ => fun
  | [d1, d2, d3, d4, d5, d6] => { results := [.lit (.bool true)], args := [d1, d2, d3, d4, d5, d6] }
  | _ => none }
def bindVotesRow : OpenClaim := { program := "ytionjeodcmnneaa", sum := "9c5c282828a49069e0ff87ae05a1c77680a1b1ac1007d244b6ade939e45ab73f", func := "consol/consollaw38.BindVotes", spec := "bindVotes", unfollowed := true, recurses := true, loops := true, apart := false }
def BindVotesSaid : Prop := bindVotesRow.holds Try.pinned (OpenSpec.ofChange bindVotesSpec)

/-- ITS FALSE NEIGHBOUR: 'it returns false'. Refute it at one input. -/
def bindVotesWrong : ChangeSpec := { name := "bindVotes", fn := fun _ => fun
  | [d1, d2, d3, d4, d5, d6] => { results := [.lit (.bool false)], args := [d1, d2, d3, d4, d5, d6] }
  | _ => none }
def BindVotesWrongFalsely : Prop := bindVotesRow.holds Try.pinned (OpenSpec.ofChange bindVotesWrong)

/- THE SECOND FORM. 'bulk': how many values and letters a reading holds, each counted each time it is reached (what is shared counts as often as it is met; a slice's spare places count too). A statement '..UptoSaid' is the law's where the arguments, and the package variables that the reading takes, are together of bulk at most 1048576: NARROWER than '..Said'. Prove '..Said' where nothing that the law and all that it calls make is longer than what came in: it says more and counts as full. Else prove '..UptoSaid'. A law counts once. -/
mutual
def uptoBulk {H : Type} : DataW H → Nat
  | .lit (.string bytes) => bytes.length + 1
  | .lit _ => 1
  | .nil => 1
  | .ptr d => uptoBulk d + 1
  | .slice elems spare => uptoBulkAll elems + uptoBulkAll spare + 1
  | .agg parts => uptoBulkAll parts + 1
  | .iface _ d => uptoBulk d + 1
  | .map entries => uptoBulkEntries entries + 1
  | .held _ => 1
def uptoBulkAll {H : Type} : List (DataW H) → Nat
  | [] => 0
  | d :: r => uptoBulk d + uptoBulkAll r
def uptoBulkEntries {H : Type} : List (Lit × DataW H) → Nat
  | [] => 0
  | x :: r => uptoBulkEntry x + uptoBulkEntries r
def uptoBulkEntry {H : Type} : Lit × DataW H → Nat
  | (.string bytes, d) => bytes.length + uptoBulk d + 1
  | (_, d) => uptoBulk d + 1
 end
def uptoSmall : (H : Type) → List (DataW H) → Bool := fun _ ds => decide (uptoBulkAll ds ≤ 1048576)
def OpenSpec.upto (s : _root_.Go.ChangeSpec) : _root_.Go.OpenSpec := { _root_.Go.OpenSpec.ofChange s with cond := some uptoSmall }

/-- 'consollaw38.BindTells', WHERE WHAT IT READS IS OF BULK AT MOST 1048576: true; the input reads as it did. -/
def bindTellsUptoRow : OpenClaim := { program := "ytionjeodcmnneaa", sum := "9c5c282828a49069e0ff87ae05a1c77680a1b1ac1007d244b6ade939e45ab73f", func := "consol/consollaw38.BindTells", spec := "bindTells", unfollowed := true, recurses := true, loops := true, apart := false, narrowed := true }
def BindTellsUptoSaid : Prop := bindTellsUptoRow.holds Try.pinned (OpenSpec.upto bindTellsSpec)

/-- 'consollaw38.BindOwn', WHERE WHAT IT READS IS OF BULK AT MOST 1048576: true; the input reads as it did. -/
def bindOwnUptoRow : OpenClaim := { program := "ytionjeodcmnneaa", sum := "9c5c282828a49069e0ff87ae05a1c77680a1b1ac1007d244b6ade939e45ab73f", func := "consol/consollaw38.BindOwn", spec := "bindOwn", unfollowed := true, recurses := true, loops := true, apart := false, narrowed := true }
def BindOwnUptoSaid : Prop := bindOwnUptoRow.holds Try.pinned (OpenSpec.upto bindOwnSpec)

/-- 'consollaw38.BindApart', WHERE WHAT IT READS IS OF BULK AT MOST 1048576: true; the input reads as it did. -/
def bindApartUptoRow : OpenClaim := { program := "ytionjeodcmnneaa", sum := "9c5c282828a49069e0ff87ae05a1c77680a1b1ac1007d244b6ade939e45ab73f", func := "consol/consollaw38.BindApart", spec := "bindApart", unfollowed := true, recurses := true, loops := true, apart := false, narrowed := true }
def BindApartUptoSaid : Prop := bindApartUptoRow.holds Try.pinned (OpenSpec.upto bindApartSpec)

/-- 'consollaw38.BindMore', WHERE WHAT IT READS IS OF BULK AT MOST 1048576: true; the input reads as it did. -/
def bindMoreUptoRow : OpenClaim := { program := "ytionjeodcmnneaa", sum := "9c5c282828a49069e0ff87ae05a1c77680a1b1ac1007d244b6ade939e45ab73f", func := "consol/consollaw38.BindMore", spec := "bindMore", unfollowed := true, recurses := true, loops := true, apart := false, narrowed := true }
def BindMoreUptoSaid : Prop := bindMoreUptoRow.holds Try.pinned (OpenSpec.upto bindMoreSpec)

/-- 'consollaw38.BindVotes', WHERE WHAT IT READS IS OF BULK AT MOST 1048576: true; the input reads as it did. -/
def bindVotesUptoRow : OpenClaim := { program := "ytionjeodcmnneaa", sum := "9c5c282828a49069e0ff87ae05a1c77680a1b1ac1007d244b6ade939e45ab73f", func := "consol/consollaw38.BindVotes", spec := "bindVotes", unfollowed := true, recurses := true, loops := true, apart := false, narrowed := true }
def BindVotesUptoSaid : Prop := bindVotesUptoRow.holds Try.pinned (OpenSpec.upto bindVotesSpec)

end Rows
end Go.Proofs.Ytionjeodcmnneaa
