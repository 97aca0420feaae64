/-
  NARROWER THAN 'FOR EVERY INPUT', by the rows' own cells (each row's printed sentence says how): EvalNames: loops · EvalLazy: loops · EvalOrder: loops.
  DERIVED. THE GIVEN ROWS OF THIS SEAT. 3 by the template 'for every input the law returns true; each argument reads behind the call as it read before'; 0 by the template 'total and deterministic' (their statements: YtjedkgogjehigaaTotals.lean).
  GIVEN WITH THE SEED: the statements are not yours to turn. If you find one false, say at which input.
  Laid BY PROGRAM, IN A SANDBOX (cutbox-rows.mjs): the forced cells as the released guide's own fill.sh prints them over the translation 6a2d4d297f7538e2… (all of the seat's roots in one cut). By AI agents, Wed Nov 11 2026. No macro, syntax, notation, axiom, sorry.
-/
import Derived.Test.YtjedkgogjehigaaChecked
import GoSem.Claim
import GoSem.ClaimJoined
import GoSem.ClaimMapViews
import Derived.JoinedTies
import Derived.KernelRfl
namespace Go.Proofs.Ytjedkgogjehigaa
/- THE CELL 'sum', in the pinned program and in every row, IS THE sha256 OF THE DUMP (.gsa) THAT YtjedkgogjehigaaProg.lean LOADS. Nothing in Lean hashes anything: it is a label: what it is worth is what the hold of that sum in a sandbox is worth. -/
noncomputable def Try.pinned : Pinned := { name := "ytjedkgogjehigaa", sum := "6a2d4d297f7538e29f8a07670001c3e0d916b9374d46445ebed8b22db34cf7ca", checked := Try.checked }
namespace Rows
def none {H : Type} : Left H := { results := [], args := [] }

/-- 'consollaw14.EvalNames': WHATEVER THE INPUT: true; the input reads as it did. -/
def evalNamesSpec : ChangeSpec := { name := "evalNames", fn := fun _ => fun
  | [d1, d2, d3] => { results := [.lit (.bool true)], args := [d1, d2, d3] }
  | _ => none }
def evalNamesRow : OpenClaim := { program := "ytjedkgogjehigaa", sum := "6a2d4d297f7538e29f8a07670001c3e0d916b9374d46445ebed8b22db34cf7ca", func := "consol/consollaw14.EvalNames", spec := "evalNames", unfollowed := true, recurses := true, loops := true, apart := false }
def EvalNamesSaid : Prop := evalNamesRow.holds Try.pinned (OpenSpec.ofChange evalNamesSpec)

/-- ITS FALSE NEIGHBOUR: 'it returns false'. Refute it at one input. -/
def evalNamesWrong : ChangeSpec := { name := "evalNames", fn := fun _ => fun
  | [d1, d2, d3] => { results := [.lit (.bool false)], args := [d1, d2, d3] }
  | _ => none }
def EvalNamesWrongFalsely : Prop := evalNamesRow.holds Try.pinned (OpenSpec.ofChange evalNamesWrong)

/-- 'consollaw14.EvalLazy': WHATEVER THE INPUT: true; the input reads as it did. -/
def evalLazySpec : ChangeSpec := { name := "evalLazy", fn := fun _ => fun
  | [d1, d2, d3, d4, d5, d6] => { results := [.lit (.bool true)], args := [d1, d2, d3, d4, d5, d6] }
  | _ => none }
def evalLazyRow : OpenClaim := { program := "ytjedkgogjehigaa", sum := "6a2d4d297f7538e29f8a07670001c3e0d916b9374d46445ebed8b22db34cf7ca", func := "consol/consollaw14.EvalLazy", spec := "evalLazy", unfollowed := true, recurses := true, loops := true, apart := false }
def EvalLazySaid : Prop := evalLazyRow.holds Try.pinned (OpenSpec.ofChange evalLazySpec)

/-- ITS FALSE NEIGHBOUR: 'it returns false'. Refute it at one input. -/
def evalLazyWrong : ChangeSpec := { name := "evalLazy", fn := fun _ => fun
  | [d1, d2, d3, d4, d5, d6] => { results := [.lit (.bool false)], args := [d1, d2, d3, d4, d5, d6] }
  | _ => none }
def EvalLazyWrongFalsely : Prop := evalLazyRow.holds Try.pinned (OpenSpec.ofChange evalLazyWrong)

/-- 'consollaw14.EvalOrder': WHATEVER THE INPUT: true; the input reads as it did. -/
def evalOrderSpec : ChangeSpec := { name := "evalOrder", fn := fun _ => fun
  | [d1, d2, d3, d4] => { results := [.lit (.bool true)], args := [d1, d2, d3, d4] }
  | _ => none }
def evalOrderRow : OpenClaim := { program := "ytjedkgogjehigaa", sum := "6a2d4d297f7538e29f8a07670001c3e0d916b9374d46445ebed8b22db34cf7ca", func := "consol/consollaw14.EvalOrder", spec := "evalOrder", unfollowed := true, recurses := true, loops := true, apart := false }
def EvalOrderSaid : Prop := evalOrderRow.holds Try.pinned (OpenSpec.ofChange evalOrderSpec)

/-- ITS FALSE NEIGHBOUR: 'it returns false'. Refute it at one input. -/
def evalOrderWrong : ChangeSpec := { name := "evalOrder", fn := fun _ => fun
  | [d1, d2, d3, d4] => { results := [.lit (.bool false)], args := [d1, d2, d3, d4] }
  | _ => none }
def EvalOrderWrongFalsely : Prop := evalOrderRow.holds Try.pinned (OpenSpec.ofChange evalOrderWrong)

/- THE SECOND FORM. 'bulk': how many values and letters a reading holds, each counted each time it is reached (what is shared counts as often as it is met; a slice's spare places count too). A statement '..UptoSaid' is the law's where the arguments, and the package variables that the reading takes, are together of bulk at most 1048576: NARROWER than '..Said'. Prove '..Said' where nothing that the law and all that it calls make is longer than what came in: it says more and counts as full. Else prove '..UptoSaid'. A law counts once. -/
mutual
def uptoBulk {H : Type} : DataW H → Nat
  | .lit (.string bytes) => bytes.length + 1
  | .lit _ => 1
  | .nil => 1
  | .ptr d => uptoBulk d + 1
  | .slice elems spare => uptoBulkAll elems + uptoBulkAll spare + 1
  | .agg parts => uptoBulkAll parts + 1
  | .iface _ d => uptoBulk d + 1
  | .map entries => uptoBulkEntries entries + 1
  | .held _ => 1
def uptoBulkAll {H : Type} : List (DataW H) → Nat
  | [] => 0
  | d :: r => uptoBulk d + uptoBulkAll r
def uptoBulkEntries {H : Type} : List (Lit × DataW H) → Nat
  | [] => 0
  | x :: r => uptoBulkEntry x + uptoBulkEntries r
def uptoBulkEntry {H : Type} : Lit × DataW H → Nat
  | (.string bytes, d) => bytes.length + uptoBulk d + 1
  | (_, d) => uptoBulk d + 1
 end
def uptoSmall : (H : Type) → List (DataW H) → Bool := fun _ ds => decide (uptoBulkAll ds ≤ 1048576)
def OpenSpec.upto (s : _root_.Go.ChangeSpec) : _root_.Go.OpenSpec := { _root_.Go.OpenSpec.ofChange s with cond := some uptoSmall }

/-- 'consollaw14.EvalNames', WHERE WHAT IT READS IS OF BULK AT MOST 1048576: true; the input reads as it did. -/
def evalNamesUptoRow : OpenClaim := { program := "ytjedkgogjehigaa", sum := "6a2d4d297f7538e29f8a07670001c3e0d916b9374d46445ebed8b22db34cf7ca", func := "consol/consollaw14.EvalNames", spec := "evalNames", unfollowed := true, recurses := true, loops := true, apart := false, narrowed := true }
def EvalNamesUptoSaid : Prop := evalNamesUptoRow.holds Try.pinned (OpenSpec.upto evalNamesSpec)

/-- 'consollaw14.EvalLazy', WHERE WHAT IT READS IS OF BULK AT MOST 1048576: true; the input reads as it did. -/
def evalLazyUptoRow : OpenClaim := { program := "ytjedkgogjehigaa", sum := "6a2d4d297f7538e29f8a07670001c3e0d916b9374d46445ebed8b22db34cf7ca", func := "consol/consollaw14.EvalLazy", spec := "evalLazy", unfollowed := true, recurses := true, loops := true, apart := false, narrowed := true }
def EvalLazyUptoSaid : Prop := evalLazyUptoRow.holds Try.pinned (OpenSpec.upto evalLazySpec)

/-- 'consollaw14.EvalOrder', WHERE WHAT IT READS IS OF BULK AT MOST 1048576: true; the input reads as it did. -/
def evalOrderUptoRow : OpenClaim := { program := "ytjedkgogjehigaa", sum := "6a2d4d297f7538e29f8a07670001c3e0d916b9374d46445ebed8b22db34cf7ca", func := "consol/consollaw14.EvalOrder", spec := "evalOrder", unfollowed := true, recurses := true, loops := true, apart := false, narrowed := true }
def EvalOrderUptoSaid : Prop := evalOrderUptoRow.holds Try.pinned (OpenSpec.upto evalOrderSpec)

end Rows
end Go.Proofs.Ytjedkgogjehigaa
