/-
  NARROWER THAN 'FOR EVERY INPUT', by the rows' own cells (each row's printed sentence says how): UnitsTells: loops · UnitsPlace: loops · UnitsAccepts: loops.
  DERIVED. THE GIVEN ROWS OF THIS SEAT. 3 by the template 'for every input the law returns true; each argument reads behind the call as it read before'; 0 by the template 'total and deterministic' (their statements: YtppdbmobcfedcaaTotals.lean).
  GIVEN WITH THE SEED: the statements are not yours to turn. If you find one false, say at which input.
  Laid BY PROGRAM, IN A SANDBOX (cutbox-rows.mjs): the forced cells as the released guide's own fill.sh prints them over the translation b67a06bc26107541… (all of the seat's roots in one cut). By AI agents, Wed Nov 11 2026. No macro, syntax, notation, axiom, sorry.
-/
import Derived.Test.YtppdbmobcfedcaaChecked
import GoSem.Claim
import GoSem.ClaimJoined
import GoSem.ClaimMapViews
import Derived.JoinedTies
import Derived.KernelRfl
namespace Go.Proofs.Ytppdbmobcfedcaa
/- THE CELL 'sum', in the pinned program and in every row, IS THE sha256 OF THE DUMP (.gsa) THAT YtppdbmobcfedcaaProg.lean LOADS. Nothing in Lean hashes anything: it is a label: what it is worth is what the hold of that sum in a sandbox is worth. -/
noncomputable def Try.pinned : Pinned := { name := "ytppdbmobcfedcaa", sum := "b67a06bc261075418580219a235a811e18f8db60f4fbd029724d4e39062c4daa", checked := Try.checked }
namespace Rows
def none {H : Type} : Left H := { results := [], args := [] }

/-- 'consollaw13.UnitsTells': WHATEVER THE INPUT: true; the input reads as it did. -/
def unitsTellsSpec : ChangeSpec := { name := "unitsTells", fn := fun _ => fun
  | [d1, d2] => { results := [.lit (.bool true)], args := [d1, d2] }
  | _ => none }
def unitsTellsRow : OpenClaim := { program := "ytppdbmobcfedcaa", sum := "b67a06bc261075418580219a235a811e18f8db60f4fbd029724d4e39062c4daa", func := "consol/consollaw13.UnitsTells", spec := "unitsTells", unfollowed := true, recurses := true, loops := true, apart := false }
def UnitsTellsSaid : Prop := unitsTellsRow.holds Try.pinned (OpenSpec.ofChange unitsTellsSpec)

/-- ITS FALSE NEIGHBOUR: 'it returns false'. Refute it at one input. -/
def unitsTellsWrong : ChangeSpec := { name := "unitsTells", fn := fun _ => fun
  | [d1, d2] => { results := [.lit (.bool false)], args := [d1, d2] }
  | _ => none }
def UnitsTellsWrongFalsely : Prop := unitsTellsRow.holds Try.pinned (OpenSpec.ofChange unitsTellsWrong)

/-- 'consollaw13.UnitsPlace': WHATEVER THE INPUT: true; the input reads as it did. -/
def unitsPlaceSpec : ChangeSpec := { name := "unitsPlace", fn := fun _ => fun
  | [d1, d2] => { results := [.lit (.bool true)], args := [d1, d2] }
  | _ => none }
def unitsPlaceRow : OpenClaim := { program := "ytppdbmobcfedcaa", sum := "b67a06bc261075418580219a235a811e18f8db60f4fbd029724d4e39062c4daa", func := "consol/consollaw13.UnitsPlace", spec := "unitsPlace", unfollowed := true, recurses := true, loops := true, apart := false }
def UnitsPlaceSaid : Prop := unitsPlaceRow.holds Try.pinned (OpenSpec.ofChange unitsPlaceSpec)

/-- ITS FALSE NEIGHBOUR: 'it returns false'. Refute it at one input. -/
def unitsPlaceWrong : ChangeSpec := { name := "unitsPlace", fn := fun _ => fun
  | [d1, d2] => { results := [.lit (.bool false)], args := [d1, d2] }
  | _ => none }
def UnitsPlaceWrongFalsely : Prop := unitsPlaceRow.holds Try.pinned (OpenSpec.ofChange unitsPlaceWrong)

/-- 'consollaw13.UnitsAccepts': WHATEVER THE INPUT: true; the input reads as it did. -/
def unitsAcceptsSpec : ChangeSpec := { name := "unitsAccepts", fn := fun _ => fun
  | [d1, d2] => { results := [.lit (.bool true)], args := [d1, d2] }
  | _ => none }
def unitsAcceptsRow : OpenClaim := { program := "ytppdbmobcfedcaa", sum := "b67a06bc261075418580219a235a811e18f8db60f4fbd029724d4e39062c4daa", func := "consol/consollaw13.UnitsAccepts", spec := "unitsAccepts", unfollowed := true, recurses := true, loops := true, apart := false }
def UnitsAcceptsSaid : Prop := unitsAcceptsRow.holds Try.pinned (OpenSpec.ofChange unitsAcceptsSpec)

/-- ITS FALSE NEIGHBOUR: 'it returns false'. Refute it at one input. -/
def unitsAcceptsWrong : ChangeSpec := { name := "unitsAccepts", fn := fun _ => fun
  | [d1, d2] => { results := [.lit (.bool false)], args := [d1, d2] }
  | _ => none }
def UnitsAcceptsWrongFalsely : Prop := unitsAcceptsRow.holds Try.pinned (OpenSpec.ofChange unitsAcceptsWrong)

/- THE SECOND FORM. 'bulk': how many values and letters a reading holds, each counted each time it is reached (what is shared counts as often as it is met; a slice's spare places count too). A statement '..UptoSaid' is the law's where the arguments, and the package variables that the reading takes, are together of bulk at most 1048576: NARROWER than '..Said'. Prove '..Said' where nothing that the law and all that it calls make is longer than what came in: it says more and counts as full. Else prove '..UptoSaid'. A law counts once. -/
mutual
def uptoBulk {H : Type} : DataW H → Nat
  | .lit (.string bytes) => bytes.length + 1
  | .lit _ => 1
  | .nil => 1
  | .ptr d => uptoBulk d + 1
  | .slice elems spare => uptoBulkAll elems + uptoBulkAll spare + 1
  | .agg parts => uptoBulkAll parts + 1
  | .iface _ d => uptoBulk d + 1
  | .map entries => uptoBulkEntries entries + 1
  | .held _ => 1
def uptoBulkAll {H : Type} : List (DataW H) → Nat
  | [] => 0
  | d :: r => uptoBulk d + uptoBulkAll r
def uptoBulkEntries {H : Type} : List (Lit × DataW H) → Nat
  | [] => 0
  | x :: r => uptoBulkEntry x + uptoBulkEntries r
def uptoBulkEntry {H : Type} : Lit × DataW H → Nat
  | (.string bytes, d) => bytes.length + uptoBulk d + 1
  | (_, d) => uptoBulk d + 1
 end
def uptoSmall : (H : Type) → List (DataW H) → Bool := fun _ ds => decide (uptoBulkAll ds ≤ 1048576)
def OpenSpec.upto (s : _root_.Go.ChangeSpec) : _root_.Go.OpenSpec := { _root_.Go.OpenSpec.ofChange s with cond := some uptoSmall }

/-- 'consollaw13.UnitsTells', WHERE WHAT IT READS IS OF BULK AT MOST 1048576: true; the input reads as it did. -/
def unitsTellsUptoRow : OpenClaim := { program := "ytppdbmobcfedcaa", sum := "b67a06bc261075418580219a235a811e18f8db60f4fbd029724d4e39062c4daa", func := "consol/consollaw13.UnitsTells", spec := "unitsTells", unfollowed := true, recurses := true, loops := true, apart := false, narrowed := true }
def UnitsTellsUptoSaid : Prop := unitsTellsUptoRow.holds Try.pinned (OpenSpec.upto unitsTellsSpec)

/-- 'consollaw13.UnitsPlace', WHERE WHAT IT READS IS OF BULK AT MOST 1048576: true; the input reads as it did. -/
def unitsPlaceUptoRow : OpenClaim := { program := "ytppdbmobcfedcaa", sum := "b67a06bc261075418580219a235a811e18f8db60f4fbd029724d4e39062c4daa", func := "consol/consollaw13.UnitsPlace", spec := "unitsPlace", unfollowed := true, recurses := true, loops := true, apart := false, narrowed := true }
def UnitsPlaceUptoSaid : Prop := unitsPlaceUptoRow.holds Try.pinned (OpenSpec.upto unitsPlaceSpec)

/-- 'consollaw13.UnitsAccepts', WHERE WHAT IT READS IS OF BULK AT MOST 1048576: true; the input reads as it did. -/
def unitsAcceptsUptoRow : OpenClaim := { program := "ytppdbmobcfedcaa", sum := "b67a06bc261075418580219a235a811e18f8db60f4fbd029724d4e39062c4daa", func := "consol/consollaw13.UnitsAccepts", spec := "unitsAccepts", unfollowed := true, recurses := true, loops := true, apart := false, narrowed := true }
def UnitsAcceptsUptoSaid : Prop := unitsAcceptsUptoRow.holds Try.pinned (OpenSpec.upto unitsAcceptsSpec)

end Rows
end Go.Proofs.Ytppdbmobcfedcaa
