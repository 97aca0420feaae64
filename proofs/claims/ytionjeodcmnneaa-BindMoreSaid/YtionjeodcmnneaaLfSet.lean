/-
  A store into one field of one row of a block that encodes a list.
-/
import Derived.Test.YtionjeodcmnneaaLfMore
set_option linter.unusedVariables false
namespace Lf
open Go
section
variable {P : Program} {G : Ghost} {T : Nat → Option TI} (hT : TOK P T) {n0 : Nat} {env : List (Nat × (Prop × AV))} {bl : List (Nat × Blk)} {ops : Array Oper} {rest : List Oper} {Q : St → Prop} {ty : TypeId} {pos : String} {after : Array Edge}
include hT
theorem S_storemf {α : Type} {t n i off E sz : Nat} {x y : Operand} {ti : TI} {l : List α} {f : α → List Cell} (v : α) {q : PV} (I : Inhabited α) (hx : Ev (St.mk n0 env bl) True x (.addr n i off)) (hy : Ev (St.mk n0 env bl) True y (.pv q)) (ht : T t = some ti)
    (hl : lk bl n = some ⟨E, sz, l.map f⟩) (hi : i < l.length) (hq : q.cells.length = ti.sz) (hfit : Nat.ble (off + ti.sz) (f (nth l i)).length = true) (hv : splice (f (nth l i)) off q.cells = f v)
    (h : RG P G ops rest Q (St.mk n0 env ((n, ⟨E, sz, (l.set i v).map f⟩) :: bl))) :
    RG P G ops (⟨none, .store t x y, ty, pos, after, none⟩ :: rest) Q (St.mk n0 env bl) := by
  have hn : nth l i = l[i] := by simp [nth, List.getD, List.getElem?_eq_getElem hi]
  have hr : (l.map f)[i]? = some (f (nth l i)) := by rw [hn]; simp [List.getElem?_eq_getElem hi]
  refine S_store hT hx hy ht hl hr hq hfit ?_
  have e : (l.map f).set i (splice (f (nth l i)) off q.cells) = (l.set i v).map f := by rw [hv, List.map_set]
  show RG P G ops rest Q (St.mk n0 env ((n, ⟨E, sz, (l.map f).set i (splice (f (nth l i)) off q.cells)⟩) :: bl))
  rw [e]; exact h
end
end Lf
