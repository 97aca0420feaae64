/-
  Strings: parts and sums.
-/
import Derived.Test.YtipghibmgfhmpaaGreatDoorLfAny
set_option linter.unusedVariables false
set_option linter.unusedSimpArgs false
set_option linter.unusedSectionVars false
namespace Lf
open Go Go.RowKit
section
variable {P : Program} {G : Ghost} {n0 : Nat} {env : List (Nat × (Prop × AV))} {bl : List (Nat × Blk)} {p : Prop} {dst : Option Nat} {ty : TypeId} {pos : String} {after : Array Edge} {gd : Option (Nat × Bool)}
theorem extract_list (s : ByteArray) (a b : Nat) : (s.extract a b).data.toList = (s.data.toList.drop a).take (b - a) := by
  have : (s.extract a b).data = s.data.extract a b := by simp
  rw [this, Array.toList_extract]
theorem str_size (s : ByteArray) : s.size = s.data.toList.length := by
  show s.data.size = s.data.toList.length
  simp
theorem run_bound {w : World} {k : IntKind} {n : Int} {m : Nat} {c : BoundsCode} (h : 0 ≤ n ∧ n ≤ m) : (Instr.sliceBound (.int k n) m c).run P w = .ok n.toNat w := by
  simp [Instr.sliceBound, asIntOf, h.1, h.2]
variable {T : TT} (hT : TOK P T)
include hT
/-- s[a:b] -/
theorem Q_sub2 {t : Nat} {x lo hi : Operand} {ti : TI} {l : List UInt8} {k k' : IntKind} {a b : Int} (hx : Ev (St.mk n0 env bl) p x (.pv (.one (.str l)))) (ha : Ev (St.mk n0 env bl) p lo (.pv (.one (.int k a)))) (hb : Ev (St.mk n0 env bl) p hi (.pv (.one (.int k' b))))
    (ht : T t = some ti) (hk : ti.kind = .string) (hr : p → 0 ≤ a ∧ a ≤ b ∧ b ≤ l.length) : PureOp P G (St.mk n0 env bl) ⟨dst, .slice t x (some lo) (some hi) none, ty, pos, after, gd⟩ p (.pv (.one (.str ((l.drop a.toNat).take (b.toNat - a.toNat))))) := PureOp.val fun Φ β ac w hs hp => by
  have hu : P.underlying t = some .string := by have := (hT _ _ ht).kind; rw [hk] at this; exact this
  obtain ⟨s, h1, rfl⟩ := AVRel.str (hs.ev hx hp)
  have h2 := AVRel.int (hs.ev ha hp)
  have h3 := AVRel.int (hs.ev hb hp)
  obtain ⟨r1, r2, r3⟩ := hr hp
  have hsz : s.size = s.data.toList.length := str_size s
  refine ⟨.string (s.extract a.toNat b.toNat), exec_val (m := Instr.sliceAt t (ac.eval x) (some (ac.eval lo)) (some (ac.eval hi)) none) (by simp only [execOp]; rfl) ?_, by rw [← extract_list]; exact Rel.str _⟩
  rw [h1, h2, h3]
  have e1 : (Instr.sliceBound (.int k' b) s.size .sliceAlen).run P w = .ok b.toNat w := run_bound ⟨by omega, by rw [hsz]; exact r3⟩
  have e2 : (Instr.sliceBound (.int k a) b.toNat .sliceB).run P w = .ok a.toNat w := run_bound ⟨r1, by omega⟩
  simp [Instr.sliceAt, run_underlying hu, Instr.slice, Instr.sliceBounds, e1, e2]
/-- s[a:] -/
theorem Q_sub1 {t : Nat} {x lo : Operand} {ti : TI} {l : List UInt8} {k : IntKind} {a : Int} (hx : Ev (St.mk n0 env bl) p x (.pv (.one (.str l)))) (ha : Ev (St.mk n0 env bl) p lo (.pv (.one (.int k a))))
    (ht : T t = some ti) (hk : ti.kind = .string) (hr : p → 0 ≤ a ∧ a ≤ l.length) : PureOp P G (St.mk n0 env bl) ⟨dst, .slice t x (some lo) none none, ty, pos, after, gd⟩ p (.pv (.one (.str (l.drop a.toNat)))) := PureOp.val fun Φ β ac w hs hp => by
  have hu : P.underlying t = some .string := by have := (hT _ _ ht).kind; rw [hk] at this; exact this
  obtain ⟨s, h1, rfl⟩ := AVRel.str (hs.ev hx hp)
  have h2 := AVRel.int (hs.ev ha hp)
  obtain ⟨r1, r2⟩ := hr hp
  have hsz : s.size = s.data.toList.length := str_size s
  have e0 : s.data.toList.drop a.toNat = (s.extract a.toNat s.size).data.toList := by
    rw [extract_list, hsz, List.take_of_length_le (by simp)]
  refine ⟨.string (s.extract a.toNat s.size), exec_val (m := Instr.sliceAt t (ac.eval x) (some (ac.eval lo)) none none) (by simp only [execOp]; rfl) ?_, by rw [e0]; exact Rel.str _⟩
  rw [h1, h2]
  have e2 : (Instr.sliceBound (.int k a) s.size .sliceB).run P w = .ok a.toNat w := run_bound ⟨r1, by rw [hsz]; exact r2⟩
  simp [Instr.sliceAt, run_underlying hu, Instr.slice, Instr.sliceBounds, e2]
/-- s[:b] -/
theorem Q_sub0 {t : Nat} {x hi : Operand} {ti : TI} {l : List UInt8} {k : IntKind} {b : Int} (hx : Ev (St.mk n0 env bl) p x (.pv (.one (.str l)))) (hb : Ev (St.mk n0 env bl) p hi (.pv (.one (.int k b))))
    (ht : T t = some ti) (hk : ti.kind = .string) (hr : p → 0 ≤ b ∧ b ≤ l.length) : PureOp P G (St.mk n0 env bl) ⟨dst, .slice t x none (some hi) none, ty, pos, after, gd⟩ p (.pv (.one (.str (l.take b.toNat)))) := PureOp.val fun Φ β ac w hs hp => by
  have hu : P.underlying t = some .string := by have := (hT _ _ ht).kind; rw [hk] at this; exact this
  obtain ⟨s, h1, rfl⟩ := AVRel.str (hs.ev hx hp)
  have h2 := AVRel.int (hs.ev hb hp)
  obtain ⟨r1, r2⟩ := hr hp
  have hsz : s.size = s.data.toList.length := str_size s
  have e0 : s.data.toList.take b.toNat = (s.extract 0 b.toNat).data.toList := by rw [extract_list]; simp
  refine ⟨.string (s.extract 0 b.toNat), exec_val (m := Instr.sliceAt t (ac.eval x) none (some (ac.eval hi)) none) (by simp only [execOp]; rfl) ?_, by rw [e0]; exact Rel.str _⟩
  rw [h1, h2]
  have e2 : (Instr.sliceBound (.int k b) s.size .sliceAlen).run P w = .ok b.toNat w := run_bound ⟨r1, by rw [hsz]; exact r2⟩
  simp [Instr.sliceAt, run_underlying hu, Instr.slice, Instr.sliceBounds, e2]
omit hT in
/-- s + t -/
theorem Q_cat {xt yt : Nat} {x y : Operand} {m n : List UInt8} (hx : Ev (St.mk n0 env bl) p x (.pv (.one (.str m)))) (hy : Ev (St.mk n0 env bl) p y (.pv (.one (.str n)))) (hb : p → m.length + n.length ≤ 9223372036854775807) :
    PureOp P G (St.mk n0 env bl) ⟨dst, .binOp .add xt x y yt, ty, pos, after, gd⟩ p (.pv (.one (.str (m ++ n)))) := PureOp.val fun Φ β ac w hs hp => by
  obtain ⟨s, h1, rfl⟩ := AVRel.str (hs.ev hx hp)
  obtain ⟨t, h2, rfl⟩ := AVRel.str (hs.ev hy hp)
  have hl := hb hp
  have e : (s ++ t).data.toList = s.data.toList ++ t.data.toList := by simp
  refine ⟨.string (s ++ t), exec_val (m := do eqGuard .add xt x y (ac.eval x) (ac.eval y); binOp .add xt (ac.eval x) (ac.eval y)) (by simp only [execOp]) ?_, by rw [← e]; exact Rel.str _⟩
  rw [h1, h2]
  have e1 : eqGuard .add xt x y (.string s) (.string t) = pure () := rfl
  have e2 : binOp .add xt (.string s) (.string t) = Op.stringOp .add s t := rfl
  rw [e1, e2]
  have h3 : ¬ (((s.size + t.size : Nat) : Int) > IntKind.i64.max) := by
    have hm : IntKind.i64.max = 9223372036854775807 := by decide
    rw [hm, str_size, str_size]; omega
  simp only [pure_bind, Op.stringOp, if_neg h3, Sem.run_pure]
end
end Lf
