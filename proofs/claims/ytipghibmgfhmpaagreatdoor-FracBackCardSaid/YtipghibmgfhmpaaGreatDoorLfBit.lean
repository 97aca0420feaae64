/-
  Masks, shifts and joins of 20 bits; parts of a lent slice.
-/
import Derived.Test.YtipghibmgfhmpaaGreatDoorLfSub
import Derived.Test.YtipghibmgfhmpaaGreatDoorLfPtr
import Derived.Test.YtipghibmgfhmpaaGreatDoorLfNum
set_option linter.unusedVariables false
set_option linter.unusedSimpArgs false
set_option linter.unusedSectionVars false
namespace Lf
open Go Go.RowKit
theorem LSub.refl' (l : List Cell) : LSub l l := LSub.refl l
theorem Le.rowsEq {A : St} {n E sz : Nat} {rows : List (List Cell)} (rows' : List (List Cell)) (h : lk A.blks n = some ⟨E, sz, rows⟩) (hE : Nat.ble mapTag E = false) (hr : rows = rows') : Le A { A with blks := (n, ⟨E, sz, rows'⟩) :: A.blks } :=
  Le.rowSub h hE (by subst hr; exact ⟨rfl, fun i r hi => ⟨r, hi, LSub.refl r⟩⟩)
theorem i64_and20 (n : Int) : bits .and .i64 n 1048575 = n % 1048576 := by
  have h127 : (BitVec.ofInt 64 1048575).toNat = 2 ^ 20 - 1 := by decide
  have key : (BitVec.ofInt 64 n &&& BitVec.ofInt 64 1048575).toNat = (n % ((2 ^ 64 : Nat) : Int)).toNat % 2 ^ 20 := by
    rw [BitVec.toNat_and, BitVec.toNat_ofInt, h127, Nat.and_two_pow_sub_one_eq_mod]
  show IntKind.i64.wrap ((BitVec.ofInt 64 n &&& BitVec.ofInt 64 1048575).toNat : Nat) = n % 1048576
  rw [key, IntKind.wrap_i64]
  omega
theorem i64_and1 (n : Int) : bits .and .i64 n 1 = n % 2 := by
  have h127 : (BitVec.ofInt 64 1).toNat = 2 ^ 1 - 1 := by decide
  have key : (BitVec.ofInt 64 n &&& BitVec.ofInt 64 1).toNat = (n % ((2 ^ 64 : Nat) : Int)).toNat % 2 ^ 1 := by
    rw [BitVec.toNat_and, BitVec.toNat_ofInt, h127, Nat.and_two_pow_sub_one_eq_mod]
  show IntKind.i64.wrap ((BitVec.ofInt 64 n &&& BitVec.ofInt 64 1).toNat : Nat) = n % 2
  rw [key, IntKind.wrap_i64]
  omega
theorem wraps_i64 (n : Int) (h₀ : 0 ≤ n) (h₁ : n < 2 ^ 63) : IntKind.i64.wrap n = n := by rw [IntKind.wrap_i64]; omega
theorem i64_or20 {x y : Int} (hx0 : 0 ≤ x) (hx1 : x ≤ 9223372036854775807) (hx : x % 1048576 = 0) (hy0 : 0 ≤ y) (hy : y < 1048576) : bits .or .i64 x y = x + y :=
  bits_join .i64 63 (by decide) wraps_i64 20 x y hx0 (by omega) (by omega) hy0 (by omega) (by omega)
section
variable {P : Program} {G : Ghost} {n0 : Nat} {env : List (Nat × (Prop × AV))} {bl : List (Nat × Blk)} {p : Prop} {dst : Option Nat} {ty : TypeId} {pos : String} {after : Array Edge} {gd : Option (Nat × Bool)}
theorem Q_mask20 {xt yt : Nat} {x : Operand} {m : Int} (hx : Ev (St.mk n0 env bl) p x (.pv (.one (.int .i64 m)))) :
    PureOp P G (St.mk n0 env bl) ⟨dst, .binOp .and xt x (.const (.int .i64 1048575)) yt, ty, pos, after, gd⟩ p (.pv (.one (.int .i64 (m % 1048576)))) := P_bin (n := 1048575) rfl hx ⟨True, rfl, fun _ => trivial⟩ (by simp only [binI]; rw [i64_and20])
theorem Q_and1 {xt yt : Nat} {x : Operand} {m : Int} (hx : Ev (St.mk n0 env bl) p x (.pv (.one (.int .i64 m)))) :
    PureOp P G (St.mk n0 env bl) ⟨dst, .binOp .and xt x (.const (.int .i64 1)) yt, ty, pos, after, gd⟩ p (.pv (.one (.int .i64 (m % 2)))) := P_bin (n := 1) rfl hx ⟨True, rfl, fun _ => trivial⟩ (by simp only [binI]; rw [i64_and1])
theorem Q_or20 {xt yt : Nat} {x y : Operand} {m n : Int} (hx : Ev (St.mk n0 env bl) p x (.pv (.one (.int .i64 m)))) (hy : Ev (St.mk n0 env bl) p y (.pv (.one (.int .i64 n)))) (hb : p → (0 ≤ m ∧ m ≤ 9223372036854775807) ∧ m % 1048576 = 0 ∧ 0 ≤ n ∧ n < 1048576) :
    PureOp P G (St.mk n0 env bl) ⟨dst, .binOp .or xt x y yt, ty, pos, after, gd⟩ p (.pv (.one (.int .i64 (m + n)))) := fun Φ β a w hs hp => by
  obtain ⟨⟨h1, h2⟩, h3, h4, h5⟩ := hb hp
  exact P_bin (o := ⟨dst, .binOp .or xt x y yt, ty, pos, after, gd⟩) rfl hx hy (by simp only [binI]; rw [i64_or20 h1 h2 h3 h4 h5]) Φ β a w hs hp
theorem Q_shr20 {xt yt : Nat} {x : Operand} {m : Int} (hx : Ev (St.mk n0 env bl) p x (.pv (.one (.int .i64 m)))) :
    PureOp P G (St.mk n0 env bl) ⟨dst, .binOp .shr xt x (.const (.int .u64 20)) yt, ty, pos, after, gd⟩ p (.pv (.one (.int .i64 (m / 1048576)))) := by
  have h := P_shr (P := P) (G := G) (o := ⟨dst, .binOp .shr xt x (.const (.int .u64 20)) yt, ty, pos, after, gd⟩) (n := 20) (yk := .u64) rfl hx ⟨True, rfl, fun _ => trivial⟩ (fun _ => by omega)
  rw [show m.fdiv (2 ^ min (20 : Int).toNat IntKind.i64.bits) = m / 1048576 from by
    show m.fdiv 1048576 = _
    exact Int.fdiv_eq_ediv_of_nonneg _ (by omega)] at h
  exact h
theorem Q_shl20 {xt yt : Nat} {x : Operand} {m : Int} (hx : Ev (St.mk n0 env bl) p x (.pv (.one (.int .i64 m)))) (hb : p → 0 ≤ m ∧ m ≤ 8796093022207) :
    PureOp P G (St.mk n0 env bl) ⟨dst, .binOp .shl xt x (.const (.int .u64 20)) yt, ty, pos, after, gd⟩ p (.pv (.one (.int .i64 (m * 1048576)))) := fun Φ β a w hs hp => by
  have h := P_shl (P := P) (G := G) (o := ⟨dst, .binOp .shl xt x (.const (.int .u64 20)) yt, ty, pos, after, gd⟩) (n := 20) (yk := .u64) rfl hx ⟨True, rfl, fun _ => trivial⟩ (fun _ => by omega)
  have hb := hb hp
  rw [show IntKind.i64.wrap (m * 2 ^ min (20 : Int).toNat IntKind.i64.bits) = m * 1048576 from by
    show IntKind.i64.wrap (m * 1048576) = _
    exact i64_id (by omega)] at h
  exact h Φ β a w hs hp
/-- a slice that was lent -/
theorem Sat.slen {A : St} {Φ : Frz} {β : Own} {a : Act} {w : World} (hs : Sat G Φ β A a w) {n b c : Nat} {B : Blk} (h : lk A.blks n = some B) (hob : B.ob = false) (hb : β n = some (b, c)) : B.rows.length ≤ c := by
  obtain ⟨g1, _, _⟩ := hs.blk n B b c h hb
  obtain ⟨cur, _, h2, _⟩ := g1.cells hob
  exact h2
variable {T : TT} (hT : TOK P T)
include hT
theorem P_lenV {o : Oper} {A : St} {t e n b c len : Nat} {x : Operand} {ti : TI} {f : Nat → Value} (ho : o.op = .call { callee := .builtin .len, args := #[x], argTypes := #[t] }) (ht : T t = some ti) (hk : ti.kind = .slice e)
    (hx : Ev A p x (.pin n b c f)) (hf : ∀ B, lk A.blks n = some B → ∃ a' c', f B.rows.length = .slice a' len c') : PureOp P G A o p (.pv (.one (.int .i64 len))) := PureOp.val fun Φ β a w hs hp => by
  have hu : P.underlying t = some (.slice e) := by have := (hT _ _ ht).kind; rw [hk] at this; exact this
  obtain ⟨B, h1, h2, h3, h4⟩ := hs.ev hx hp
  obtain ⟨a', c', h5⟩ := hf B h2
  exact ⟨.int .i64 len, len_run ho w (by rw [h4, h5]; simp [Builtin.len_, run_underlying hu, goInt]), Rel.int _ _⟩
theorem Q_lenP {t e n b c sz off len cc : Nat} {x : Operand} {ti : TI} (hx : Ev (St.mk n0 env bl) p x (.pin n b c (subV b sz off len cc))) (ht : T t = some ti) (hk : ti.kind = .slice e) :
    PureOp P G (St.mk n0 env bl) ⟨dst, .call ⟨.builtin .len, #[x], #[t]⟩, ty, pos, after, gd⟩ p (.pv (.one (.int .i64 len))) := P_lenV hT rfl ht hk hx (fun B _ => ⟨_, _, rfl⟩)
theorem Q_lenV {α : Type} {t e n b c E sz : Nat} {x : Operand} {ti : TI} {l : List α} {g : α → List Cell} (hx : Ev (St.mk n0 env bl) p x (.pin n b c (slcV b c))) (ht : T t = some ti) (hk : ti.kind = .slice e) (hl : lk bl n = some ⟨E, sz, l.map g⟩) :
    PureOp P G (St.mk n0 env bl) ⟨dst, .call ⟨.builtin .len, #[x], #[t]⟩, ty, pos, after, gd⟩ p (.pv (.one (.int .i64 l.length))) := P_lenV hT rfl ht hk hx (fun B h => by rw [hl] at h; obtain rfl := Option.some.inj h; exact ⟨some ⟨b, 0, none⟩, c, by simp [slcV]⟩)
theorem Q_indexP {t e n b c sz off len cc : Nat} {x y : Operand} {ti te : TI} {B : Blk} {k : IntKind} {i : Int} (hx : Ev (St.mk n0 env bl) p x (.pin n b c (subV b sz off len cc))) (hy : Ev (St.mk n0 env bl) p y (.pv (.one (.int k i)))) (ht : T t = some ti) (hk : ti.kind = .slice e) (he : T e = some te)
    (hl : lk bl n = some B) (hz : te.sz = B.sz) (hz' : sz = B.sz) (hi : p → 0 ≤ i ∧ i < len) : PureOp P G (St.mk n0 env bl) ⟨dst, .indexAddr t x y, ty, pos, after, gd⟩ p (.addr n (off + i.toNat) 0) := PureOp.val fun Φ β a w hs hp => by
  obtain ⟨B', h1, h2, h3, h4⟩ := hs.ev hx hp
  obtain rfl : B = B' := by rw [hl] at h2; exact Option.some.inj h2
  have hy' := AVRel.int (hs.ev hy hp)
  refine ⟨_, exec_val (m := Instr.indexAt t (a.eval x) (a.eval y)) (by simp only [execOp]) (by rw [h4, subV, hy']; exact run_indexAt hT ht hk he (hi hp).1 (hi hp).2 _ _ w), b, c, B, h1, hl, h3, ?_⟩
  rw [hz, hz', Nat.add_mul]; simp
theorem Q_indexV {α : Type} {t e n b c E sz : Nat} {x y : Operand} {ti te : TI} {l : List α} {g : α → List Cell} {k : IntKind} {i : Int} (hx : Ev (St.mk n0 env bl) p x (.pin n b c (slcV b c))) (hy : Ev (St.mk n0 env bl) p y (.pv (.one (.int k i)))) (ht : T t = some ti) (hk : ti.kind = .slice e) (he : T e = some te)
    (hl : lk bl n = some ⟨E, sz, l.map g⟩) (hz : te.sz = sz) (hi : p → 0 ≤ i ∧ i < l.length) : PureOp P G (St.mk n0 env bl) ⟨dst, .indexAddr t x y, ty, pos, after, gd⟩ p (.addr n i.toNat 0) := PureOp.val fun Φ β a w hs hp => by
  obtain ⟨B', h1, h2, h3, h4⟩ := hs.ev hx hp
  rw [show lk (St.mk n0 env bl).blks n = _ from hl] at h2
  obtain rfl := Option.some.inj h2
  have hy' := AVRel.int (hs.ev hy hp)
  refine ⟨_, exec_val (m := Instr.indexAt t (a.eval x) (a.eval y)) (by simp only [execOp]) (by rw [h4, slcV, hy']; exact run_indexAt hT ht hk he (hi hp).1 (by simpa using (hi hp).2) _ _ w), b, c, _, h1, hl, h3, ?_⟩
  rw [hz]; simp
/-- the slice that was lent, cut at its end -/
theorem Q_cutP {t e n b c sz len : Nat} {x hi : Operand} {ti te : TI} {B : Blk} {k : IntKind} {i : Int} (hx : Ev (St.mk n0 env bl) p x (.pin n b c (subV b sz 0 len (c - 0)))) (hb : Ev (St.mk n0 env bl) p hi (.pv (.one (.int k i)))) (ht : T t = some ti) (hk : ti.kind = .slice e) (he : T e = some te)
    (hl : lk bl n = some B) (hlen : len ≤ B.rows.length) (hr : p → 0 ≤ i ∧ i ≤ len) : PureOp P G (St.mk n0 env bl) ⟨dst, .slice t x none (some hi) none, ty, pos, after, gd⟩ p (.pv (.one (.sla b i.toNat c))) := PureOp.val fun Φ β a w hs hp => by
  have hu : P.underlying t = some (.slice e) := by have := (hT _ _ ht).kind; rw [hk] at this; exact this
  obtain ⟨B', h1, h2, h3, h4⟩ := hs.ev hx hp
  rw [show lk (St.mk n0 env bl).blks n = _ from hl] at h2
  obtain rfl := Option.some.inj h2
  have hcap := hs.slen hl h3 h1
  have h5 := AVRel.int (hs.ev hb hp)
  obtain ⟨r1, r2⟩ := hr hp
  refine ⟨.slice (some ⟨b, 0, none⟩) i.toNat c, exec_val (m := Instr.sliceAt t (a.eval x) none (some (a.eval hi)) none) (by simp only [execOp]; rfl) ?_, Rel.sla _ _ _⟩
  rw [h4, h5]
  have e2 : (Instr.sliceBound (.int k i) c .sliceAcap).run P w = .ok i.toNat w := run_bound ⟨r1, by omega⟩
  simp [subV, Instr.sliceAt, run_underlying hu, Instr.slice, Instr.sliceBounds, e2, run_sizeOf hT he, Addr.add_lit]
/-- a part of an own slice whose place is known -/
theorem Q_partV {t e n b c : Nat} {x lo hi : Operand} {ti te : TI} {B : Blk} {k k' : IntKind} {i j : Int} (hx : Ev (St.mk n0 env bl) p x (.pin n b c (slcV b c))) (ha : Ev (St.mk n0 env bl) p lo (.pv (.one (.int k i)))) (hb : Ev (St.mk n0 env bl) p hi (.pv (.one (.int k' j)))) (ht : T t = some ti) (hk : ti.kind = .slice e) (he : T e = some te)
    (hl : lk bl n = some B) (hr : p → 0 ≤ i ∧ i < j ∧ j ≤ B.rows.length) : PureOp P G (St.mk n0 env bl) ⟨dst, .slice t x (some lo) (some hi) none, ty, pos, after, gd⟩ p (.pin n b c (subV b te.sz i.toNat (j.toNat - i.toNat) (c - i.toNat))) := PureOp.val fun Φ β a w hs hp => by
  have hu : P.underlying t = some (.slice e) := by have := (hT _ _ ht).kind; rw [hk] at this; exact this
  obtain ⟨B', h1, h2, h3, h4⟩ := hs.ev hx hp
  rw [show lk (St.mk n0 env bl).blks n = _ from hl] at h2
  obtain rfl := Option.some.inj h2
  have hcap := hs.slen hl h3 h1
  have h5 := AVRel.int (hs.ev ha hp)
  have h6 := AVRel.int (hs.ev hb hp)
  obtain ⟨r1, r2, r3⟩ := hr hp
  refine ⟨_, exec_val (m := Instr.sliceAt t (a.eval x) (some (a.eval lo)) (some (a.eval hi)) none) (by simp only [execOp]; rfl) ?_, B, h1, hl, h3, rfl⟩
  rw [h4, h5, h6]
  have e1 : (Instr.sliceBound (.int k' j) c .sliceAcap).run P w = .ok j.toNat w := run_bound ⟨by omega, by omega⟩
  have e2 : (Instr.sliceBound (.int k i) j.toNat .sliceB).run P w = .ok i.toNat w := run_bound ⟨r1, by omega⟩
  have e3 : ¬ c = i.toNat := by omega
  simp [subV, slcV, Instr.sliceAt, run_underlying hu, Instr.slice, Instr.sliceBounds, e1, e2, e3, run_sizeOf hT he, Addr.add_lit]
end
end Lf
