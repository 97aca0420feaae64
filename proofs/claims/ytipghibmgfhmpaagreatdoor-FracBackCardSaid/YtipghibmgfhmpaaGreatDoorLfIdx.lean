/-
  An element of an array that is a value.
-/
import Derived.Test.YtipghibmgfhmpaaGreatDoorLfCell
set_option linter.unusedVariables false
set_option linter.unusedSimpArgs false
set_option linter.unusedSectionVars false
namespace Lf
open Go Go.RowKit
section
variable {P : Program} {G : Ghost} {n0 : Nat} {env : List (Nat × (Prop × AV))} {bl : List (Nat × Blk)} {p : Prop} {dst : Option Nat} {ty : TypeId} {pos : String} {after : Array Edge} {gd : Option (Nat × Bool)}
theorem u8_id {n : Int} (h : 0 ≤ n ∧ n ≤ 255) : IntKind.u8.wrap n = n := by rw [IntKind.wrap_u8]; omega
theorem Q_add8 {xt yt : Nat} {x y : Operand} {m n : Int} (hx : Ev (St.mk n0 env bl) p x (.pv (.one (.int .u8 m)))) (hy : Ev (St.mk n0 env bl) p y (.pv (.one (.int .u8 n)))) (hb : 0 ≤ m + n ∧ m + n ≤ 255) :
    PureOp P G (St.mk n0 env bl) ⟨dst, .binOp .add xt x y yt, ty, pos, after, gd⟩ p (.pv (.one (.int .u8 (m + n)))) := P_bin rfl hx hy (by simp only [binI]; rw [u8_id hb])
theorem Q_sub8 {xt yt : Nat} {x y : Operand} {m n : Int} (hx : Ev (St.mk n0 env bl) p x (.pv (.one (.int .u8 m)))) (hy : Ev (St.mk n0 env bl) p y (.pv (.one (.int .u8 n)))) (hb : 0 ≤ m - n ∧ m - n ≤ 255) :
    PureOp P G (St.mk n0 env bl) ⟨dst, .binOp .sub xt x y yt, ty, pos, after, gd⟩ p (.pv (.one (.int .u8 (m - n)))) := P_bin rfl hx hy (by simp only [binI]; rw [u8_id hb])
variable {T : TT} (hT : TOK P T)
include hT
theorem Q_indexv {t e n : Nat} {x y : Operand} {ti te : TI} {cs : List Cell} {k : IntKind} {i : Int} {c : Cell} (hx : Ev (St.mk n0 env bl) p x (.pv (.agg cs))) (hy : Ev (St.mk n0 env bl) p y (.pv (.one (.int k i))))
    (ht : T t = some ti) (hk : ti.kind = .array n e) (he : T e = some te) (hb : te.kind.isAgg = some false) (hz : te.sz = 1) (hr : p → 0 ≤ i ∧ i < n ∧ cs[i.toNat]? = some c) :
    PureOp P G (St.mk n0 env bl) ⟨dst, .index t x y, ty, pos, after, gd⟩ p (.pv (.one c)) := PureOp.val fun Φ β a w hs hp => by
  have hu : P.underlying t = some (.array n e) := by have := (hT _ _ ht).kind; rw [hk] at this; exact this
  obtain ⟨arr, h1, h2⟩ := hs.ev hx hp
  have hy' := AVRel.int (hs.ev hy hp)
  obtain ⟨h0, hn, hc⟩ := hr hp
  obtain ⟨v, q1, q2⟩ := h2.get hc
  have q3 : arr[i.toNat]? = some v := by simpa using q1
  refine ⟨v, exec_val (m := Instr.index t (a.eval x) (a.eval y)) (by simp only [execOp]) ?_, q2⟩
  simp [Instr.index, h1, hy', asIntOf, run_underlying hu, h0, hn, part, run_isAgg hT he hb, run_sizeOf hT he, hz, q3]
end
end Lf
