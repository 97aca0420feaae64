/-
  No cell of these rows narrows 'for every input' (looked for: loops, veiled, ifaces, maps, wideKeys, modest, calm, conditions, laid).
  DERIVED. THE GIVEN ROWS OF THIS SEAT. 5 by the template 'for every input the law returns true; each argument reads behind the call as it read before'; 0 by the template 'total and deterministic' (their statements: YtgpcmgjdkefdjaaTotals.lean).
  GIVEN WITH THE SEED: the statements are not yours to turn. If you find one false, say at which input.
  Laid BY PROGRAM, IN A SANDBOX (cutbox-rows.mjs): the forced cells as the released guide's own fill.sh prints them over the translation 6d86874cd0e9b2a1… (all of the seat's roots in one cut). By AI agents, Wed Nov 11 2026. No macro, syntax, notation, axiom, sorry.
-/
import Derived.Test.YtgpcmgjdkefdjaaChecked
import GoSem.Claim
import GoSem.ClaimJoined
import GoSem.ClaimMapViews
import Derived.JoinedTies
import Derived.KernelRfl
namespace Go.Proofs.Ytgpcmgjdkefdjaa
/- THE CELL 'sum', in the pinned program and in every row, IS THE sha256 OF THE DUMP (.gsa) THAT YtgpcmgjdkefdjaaProg.lean LOADS. Nothing in Lean hashes anything: it is a label: what it is worth is what the hold of that sum in a sandbox is worth. -/
noncomputable def Try.pinned : Pinned := { name := "ytgpcmgjdkefdjaa", sum := "6d86874cd0e9b2a1a4c18908cc3ba732d8b0fc0df6f1781dd80369b577f5ae01", checked := Try.checked }
namespace Rows
def none {H : Type} : Left H := { results := [], args := [] }

/-- 'consollaw39.PriceTells': WHATEVER THE INPUT: true; the input reads as it did. -/
def priceTellsSpec : ChangeSpec := { name := "priceTells", fn := fun _ => fun
  | [d1, d2, d3, d4, d5] => { results := [.lit (.bool true)], args := [d1, d2, d3, d4, d5] }
  | _ => none }
def priceTellsRow : OpenClaim := { program := "ytgpcmgjdkefdjaa", sum := "6d86874cd0e9b2a1a4c18908cc3ba732d8b0fc0df6f1781dd80369b577f5ae01", func := "consol/consollaw39.PriceTells", spec := "priceTells", unfollowed := true, recurses := true, apart := false }
def PriceTellsSaid : Prop := priceTellsRow.holds Try.pinned (OpenSpec.ofChange priceTellsSpec)

/-- ITS FALSE NEIGHBOUR: 'it returns false'. Refute it at one input. -/
def priceTellsWrong : ChangeSpec := { name := "priceTells", fn := fun _ => fun
  | [d1, d2, d3, d4, d5] => { results := [.lit (.bool false)], args := [d1, d2, d3, d4, d5] }
  | _ => none }
def PriceTellsWrongFalsely : Prop := priceTellsRow.holds Try.pinned (OpenSpec.ofChange priceTellsWrong)

/-- 'consollaw39.PriceDearer': WHATEVER THE INPUT: true; the input reads as it did. -/
def priceDearerSpec : ChangeSpec := { name := "priceDearer", fn := fun _ => fun
  | [d1, d2, d3, d4] => { results := [.lit (.bool true)], args := [d1, d2, d3, d4] }
  | _ => none }
def priceDearerRow : OpenClaim := { program := "ytgpcmgjdkefdjaa", sum := "6d86874cd0e9b2a1a4c18908cc3ba732d8b0fc0df6f1781dd80369b577f5ae01", func := "consol/consollaw39.PriceDearer", spec := "priceDearer", unfollowed := true, recurses := true, apart := false }
def PriceDearerSaid : Prop := priceDearerRow.holds Try.pinned (OpenSpec.ofChange priceDearerSpec)

/-- ITS FALSE NEIGHBOUR: 'it returns false'. Refute it at one input. -/
def priceDearerWrong : ChangeSpec := { name := "priceDearer", fn := fun _ => fun
  | [d1, d2, d3, d4] => { results := [.lit (.bool false)], args := [d1, d2, d3, d4] }
  | _ => none }
def PriceDearerWrongFalsely : Prop := priceDearerRow.holds Try.pinned (OpenSpec.ofChange priceDearerWrong)

/-- 'consollaw39.PriceSums': WHATEVER THE INPUT: true; the input reads as it did. -/
def priceSumsSpec : ChangeSpec := { name := "priceSums", fn := fun _ => fun
  | [d1, d2, d3, d4, d5, d6] => { results := [.lit (.bool true)], args := [d1, d2, d3, d4, d5, d6] }
  | _ => none }
def priceSumsRow : OpenClaim := { program := "ytgpcmgjdkefdjaa", sum := "6d86874cd0e9b2a1a4c18908cc3ba732d8b0fc0df6f1781dd80369b577f5ae01", func := "consol/consollaw39.PriceSums", spec := "priceSums", unfollowed := true, recurses := true, apart := false }
def PriceSumsSaid : Prop := priceSumsRow.holds Try.pinned (OpenSpec.ofChange priceSumsSpec)

/-- ITS FALSE NEIGHBOUR: 'it returns false'. Refute it at one input. -/
def priceSumsWrong : ChangeSpec := { name := "priceSums", fn := fun _ => fun
  | [d1, d2, d3, d4, d5, d6] => { results := [.lit (.bool false)], args := [d1, d2, d3, d4, d5, d6] }
  | _ => none }
def PriceSumsWrongFalsely : Prop := priceSumsRow.holds Try.pinned (OpenSpec.ofChange priceSumsWrong)

/-- 'consollaw39.PriceOrder': WHATEVER THE INPUT: true; the input reads as it did. -/
def priceOrderSpec : ChangeSpec := { name := "priceOrder", fn := fun _ => fun
  | [d1, d2, d3, d4, d5] => { results := [.lit (.bool true)], args := [d1, d2, d3, d4, d5] }
  | _ => none }
def priceOrderRow : OpenClaim := { program := "ytgpcmgjdkefdjaa", sum := "6d86874cd0e9b2a1a4c18908cc3ba732d8b0fc0df6f1781dd80369b577f5ae01", func := "consol/consollaw39.PriceOrder", spec := "priceOrder", unfollowed := true, recurses := true, apart := false }
def PriceOrderSaid : Prop := priceOrderRow.holds Try.pinned (OpenSpec.ofChange priceOrderSpec)

/-- ITS FALSE NEIGHBOUR: 'it returns false'. Refute it at one input. -/
def priceOrderWrong : ChangeSpec := { name := "priceOrder", fn := fun _ => fun
  | [d1, d2, d3, d4, d5] => { results := [.lit (.bool false)], args := [d1, d2, d3, d4, d5] }
  | _ => none }
def PriceOrderWrongFalsely : Prop := priceOrderRow.holds Try.pinned (OpenSpec.ofChange priceOrderWrong)

/-- 'consollaw39.PriceCosts': WHATEVER THE INPUT: true; the input reads as it did. -/
def priceCostsSpec : ChangeSpec := { name := "priceCosts", fn := fun _ => fun
  | [d1, d2, d3] => { results := [.lit (.bool true)], args := [d1, d2, d3] }
  | _ => none }
def priceCostsRow : OpenClaim := { program := "ytgpcmgjdkefdjaa", sum := "6d86874cd0e9b2a1a4c18908cc3ba732d8b0fc0df6f1781dd80369b577f5ae01", func := "consol/consollaw39.PriceCosts", spec := "priceCosts", unfollowed := true, recurses := true, apart := false }
def PriceCostsSaid : Prop := priceCostsRow.holds Try.pinned (OpenSpec.ofChange priceCostsSpec)

/-- ITS FALSE NEIGHBOUR: 'it returns false'. Refute it at one input. -/
def priceCostsWrong : ChangeSpec := { name := "priceCosts", fn := fun _ => fun
  | [d1, d2, d3] => { results := [.lit (.bool false)], args := [d1, d2, d3] }
  | _ => none }
def PriceCostsWrongFalsely : Prop := priceCostsRow.holds Try.pinned (OpenSpec.ofChange priceCostsWrong)

/- THE SECOND FORM. 'bulk': how many values and letters a reading holds, each counted each time it is reached (what is shared counts as often as it is met; a slice's spare places count too). A statement '..UptoSaid' is the law's where the arguments, and the package variables that the reading takes, are together of bulk at most 1048576: NARROWER than '..Said'. Prove '..Said' where nothing that the law and all that it calls make is longer than what came in: it says more and counts as full. Else prove '..UptoSaid'. A law counts once. -/
mutual
def uptoBulk {H : Type} : DataW H → Nat
  | .lit (.string bytes) => bytes.length + 1
  | .lit _ => 1
  | .nil => 1
  | .ptr d => uptoBulk d + 1
  | .slice elems spare => uptoBulkAll elems + uptoBulkAll spare + 1
  | .agg parts => uptoBulkAll parts + 1
  | .iface _ d => uptoBulk d + 1
  | .map entries => uptoBulkEntries entries + 1
  | .held _ => 1
def uptoBulkAll {H : Type} : List (DataW H) → Nat
  | [] => 0
  | d :: r => uptoBulk d + uptoBulkAll r
def uptoBulkEntries {H : Type} : List (Lit × DataW H) → Nat
  | [] => 0
  | x :: r => uptoBulkEntry x + uptoBulkEntries r
def uptoBulkEntry {H : Type} : Lit × DataW H → Nat
  | (.string bytes, d) => bytes.length + uptoBulk d + 1
  | (_, d) => uptoBulk d + 1
 end
def uptoSmall : (H : Type) → List (DataW H) → Bool := fun _ ds => decide (uptoBulkAll ds ≤ 1048576)
def OpenSpec.upto (s : _root_.Go.ChangeSpec) : _root_.Go.OpenSpec := { _root_.Go.OpenSpec.ofChange s with cond := some uptoSmall }

/-- 'consollaw39.PriceTells', WHERE WHAT IT READS IS OF BULK AT MOST 1048576: true; the input reads as it did. -/
def priceTellsUptoRow : OpenClaim := { program := "ytgpcmgjdkefdjaa", sum := "6d86874cd0e9b2a1a4c18908cc3ba732d8b0fc0df6f1781dd80369b577f5ae01", func := "consol/consollaw39.PriceTells", spec := "priceTells", unfollowed := true, recurses := true, apart := false, narrowed := true }
def PriceTellsUptoSaid : Prop := priceTellsUptoRow.holds Try.pinned (OpenSpec.upto priceTellsSpec)

/-- 'consollaw39.PriceDearer', WHERE WHAT IT READS IS OF BULK AT MOST 1048576: true; the input reads as it did. -/
def priceDearerUptoRow : OpenClaim := { program := "ytgpcmgjdkefdjaa", sum := "6d86874cd0e9b2a1a4c18908cc3ba732d8b0fc0df6f1781dd80369b577f5ae01", func := "consol/consollaw39.PriceDearer", spec := "priceDearer", unfollowed := true, recurses := true, apart := false, narrowed := true }
def PriceDearerUptoSaid : Prop := priceDearerUptoRow.holds Try.pinned (OpenSpec.upto priceDearerSpec)

/-- 'consollaw39.PriceSums', WHERE WHAT IT READS IS OF BULK AT MOST 1048576: true; the input reads as it did. -/
def priceSumsUptoRow : OpenClaim := { program := "ytgpcmgjdkefdjaa", sum := "6d86874cd0e9b2a1a4c18908cc3ba732d8b0fc0df6f1781dd80369b577f5ae01", func := "consol/consollaw39.PriceSums", spec := "priceSums", unfollowed := true, recurses := true, apart := false, narrowed := true }
def PriceSumsUptoSaid : Prop := priceSumsUptoRow.holds Try.pinned (OpenSpec.upto priceSumsSpec)

/-- 'consollaw39.PriceOrder', WHERE WHAT IT READS IS OF BULK AT MOST 1048576: true; the input reads as it did. -/
def priceOrderUptoRow : OpenClaim := { program := "ytgpcmgjdkefdjaa", sum := "6d86874cd0e9b2a1a4c18908cc3ba732d8b0fc0df6f1781dd80369b577f5ae01", func := "consol/consollaw39.PriceOrder", spec := "priceOrder", unfollowed := true, recurses := true, apart := false, narrowed := true }
def PriceOrderUptoSaid : Prop := priceOrderUptoRow.holds Try.pinned (OpenSpec.upto priceOrderSpec)

/-- 'consollaw39.PriceCosts', WHERE WHAT IT READS IS OF BULK AT MOST 1048576: true; the input reads as it did. -/
def priceCostsUptoRow : OpenClaim := { program := "ytgpcmgjdkefdjaa", sum := "6d86874cd0e9b2a1a4c18908cc3ba732d8b0fc0df6f1781dd80369b577f5ae01", func := "consol/consollaw39.PriceCosts", spec := "priceCosts", unfollowed := true, recurses := true, apart := false, narrowed := true }
def PriceCostsUptoSaid : Prop := priceCostsUptoRow.holds Try.pinned (OpenSpec.upto priceCostsSpec)

end Rows
end Go.Proofs.Ytgpcmgjdkefdjaa
