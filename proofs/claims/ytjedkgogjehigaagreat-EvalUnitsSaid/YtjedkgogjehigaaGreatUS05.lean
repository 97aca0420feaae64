/-
  Part 5 of what the proof rests on.
-/
import Derived.Test.YtjedkgogjehigaaGreatUS04
section
set_option linter.unusedVariables false
set_option linter.unusedSimpArgs false
set_option linter.unusedSectionVars false
namespace Lf
open Go Go.RowKit
theorem Le.rowsEq {A : St} {n E sz : Nat} {rows : List (List Cell)} (rows' : List (List Cell)) (h : lk A.blks n = some ⟨E, sz, rows⟩) (hE : Nat.ble mapTag E = false) (hr : rows = rows') : Le A { A with blks := (n, ⟨E, sz, rows'⟩) :: A.blks } :=
  Le.rowSub h hE (by subst hr; exact ⟨rfl, fun i r hi => ⟨r, hi, LSub.refl r⟩⟩)
theorem i64_and20 (n : Int) : bits .and .i64 n 1048575 = n % 1048576 := by
  have h127 : (BitVec.ofInt 64 1048575).toNat = 2 ^ 20 - 1 := by decide
  have key : (BitVec.ofInt 64 n &&& BitVec.ofInt 64 1048575).toNat = (n % ((2 ^ 64 : Nat) : Int)).toNat % 2 ^ 20 := by
    rw [BitVec.toNat_and, BitVec.toNat_ofInt, h127, Nat.and_two_pow_sub_one_eq_mod]
  show IntKind.i64.wrap ((BitVec.ofInt 64 n &&& BitVec.ofInt 64 1048575).toNat : Nat) = n % 1048576
  rw [key, IntKind.wrap_i64]
  omega
theorem i64_and1 (n : Int) : bits .and .i64 n 1 = n % 2 := by
  have h127 : (BitVec.ofInt 64 1).toNat = 2 ^ 1 - 1 := by decide
  have key : (BitVec.ofInt 64 n &&& BitVec.ofInt 64 1).toNat = (n % ((2 ^ 64 : Nat) : Int)).toNat % 2 ^ 1 := by
    rw [BitVec.toNat_and, BitVec.toNat_ofInt, h127, Nat.and_two_pow_sub_one_eq_mod]
  show IntKind.i64.wrap ((BitVec.ofInt 64 n &&& BitVec.ofInt 64 1).toNat : Nat) = n % 2
  rw [key, IntKind.wrap_i64]
  omega
theorem wraps_i64 (n : Int) (h₀ : 0 ≤ n) (h₁ : n < 2 ^ 63) : IntKind.i64.wrap n = n := by rw [IntKind.wrap_i64]; omega
theorem i64_or20 {x y : Int} (hx0 : 0 ≤ x) (hx1 : x ≤ 9223372036854775807) (hx : x % 1048576 = 0) (hy0 : 0 ≤ y) (hy : y < 1048576) : bits .or .i64 x y = x + y :=
  bits_join .i64 63 (by decide) wraps_i64 20 x y hx0 (by omega) (by omega) hy0 (by omega) (by omega)
section
variable {P : Program} {G : Ghost} {n0 : Nat} {env : List (Nat × (Prop × AV))} {bl : List (Nat × Blk)} {p : Prop} {dst : Option Nat} {ty : TypeId} {pos : String} {after : Array Edge} {gd : Option (Nat × Bool)}
theorem Q_mask20 {xt yt : Nat} {x : Operand} {m : Int} (hx : Ev (St.mk n0 env bl) p x (.pv (.one (.int .i64 m)))) :
    PureOp P G (St.mk n0 env bl) ⟨dst, .binOp .and xt x (.const (.int .i64 1048575)) yt, ty, pos, after, gd⟩ p (.pv (.one (.int .i64 (m % 1048576)))) := P_bin (n := 1048575) rfl hx ⟨True, rfl, fun _ => trivial⟩ (by simp only [binI]; rw [i64_and20])
theorem Q_and1 {xt yt : Nat} {x : Operand} {m : Int} (hx : Ev (St.mk n0 env bl) p x (.pv (.one (.int .i64 m)))) :
    PureOp P G (St.mk n0 env bl) ⟨dst, .binOp .and xt x (.const (.int .i64 1)) yt, ty, pos, after, gd⟩ p (.pv (.one (.int .i64 (m % 2)))) := P_bin (n := 1) rfl hx ⟨True, rfl, fun _ => trivial⟩ (by simp only [binI]; rw [i64_and1])
theorem Q_or20 {xt yt : Nat} {x y : Operand} {m n : Int} (hx : Ev (St.mk n0 env bl) p x (.pv (.one (.int .i64 m)))) (hy : Ev (St.mk n0 env bl) p y (.pv (.one (.int .i64 n)))) (hb : p → (0 ≤ m ∧ m ≤ 9223372036854775807) ∧ m % 1048576 = 0 ∧ 0 ≤ n ∧ n < 1048576) :
    PureOp P G (St.mk n0 env bl) ⟨dst, .binOp .or xt x y yt, ty, pos, after, gd⟩ p (.pv (.one (.int .i64 (m + n)))) := fun Φ β a w hs hp => by
  obtain ⟨⟨h1, h2⟩, h3, h4, h5⟩ := hb hp
  exact P_bin (o := ⟨dst, .binOp .or xt x y yt, ty, pos, after, gd⟩) rfl hx hy (by simp only [binI]; rw [i64_or20 h1 h2 h3 h4 h5]) Φ β a w hs hp
theorem Q_shr20 {xt yt : Nat} {x : Operand} {m : Int} (hx : Ev (St.mk n0 env bl) p x (.pv (.one (.int .i64 m)))) :
    PureOp P G (St.mk n0 env bl) ⟨dst, .binOp .shr xt x (.const (.int .u64 20)) yt, ty, pos, after, gd⟩ p (.pv (.one (.int .i64 (m / 1048576)))) := by
  have h := P_shr (P := P) (G := G) (o := ⟨dst, .binOp .shr xt x (.const (.int .u64 20)) yt, ty, pos, after, gd⟩) (n := 20) (yk := .u64) rfl hx ⟨True, rfl, fun _ => trivial⟩ (fun _ => by omega)
  rw [show m.fdiv (2 ^ min (20 : Int).toNat IntKind.i64.bits) = m / 1048576 from by
    show m.fdiv 1048576 = _
    exact Int.fdiv_eq_ediv_of_nonneg _ (by omega)] at h
  exact h
theorem Q_shl20 {xt yt : Nat} {x : Operand} {m : Int} (hx : Ev (St.mk n0 env bl) p x (.pv (.one (.int .i64 m)))) (hb : p → 0 ≤ m ∧ m ≤ 8796093022207) :
    PureOp P G (St.mk n0 env bl) ⟨dst, .binOp .shl xt x (.const (.int .u64 20)) yt, ty, pos, after, gd⟩ p (.pv (.one (.int .i64 (m * 1048576)))) := fun Φ β a w hs hp => by
  have h := P_shl (P := P) (G := G) (o := ⟨dst, .binOp .shl xt x (.const (.int .u64 20)) yt, ty, pos, after, gd⟩) (n := 20) (yk := .u64) rfl hx ⟨True, rfl, fun _ => trivial⟩ (fun _ => by omega)
  have hb := hb hp
  rw [show IntKind.i64.wrap (m * 2 ^ min (20 : Int).toNat IntKind.i64.bits) = m * 1048576 from by
    show IntKind.i64.wrap (m * 1048576) = _
    exact i64_id (by omega)] at h
  exact h Φ β a w hs hp
/-- a slice that was lent -/
theorem Sat.slen {A : St} {Φ : Frz} {β : Own} {a : Act} {w : World} (hs : Sat G Φ β A a w) {n b c : Nat} {B : Blk} (h : lk A.blks n = some B) (hob : B.ob = false) (hb : β n = some (b, c)) : B.rows.length ≤ c := by
  obtain ⟨g1, _, _⟩ := hs.blk n B b c h hb
  obtain ⟨cur, _, h2, _⟩ := g1.cells hob
  exact h2
variable {T : TT} (hT : TOK P T)
include hT
theorem P_lenV {o : Oper} {A : St} {t e n b c len : Nat} {x : Operand} {ti : TI} {f : Nat → Value} (ho : o.op = .call { callee := .builtin .len, args := #[x], argTypes := #[t] }) (ht : T t = some ti) (hk : ti.kind = .slice e)
    (hx : Ev A p x (.pin n b c f)) (hf : ∀ B, lk A.blks n = some B → ∃ a' c', f B.rows.length = .slice a' len c') : PureOp P G A o p (.pv (.one (.int .i64 len))) := PureOp.val fun Φ β a w hs hp => by
  have hu : P.underlying t = some (.slice e) := by have := (hT _ _ ht).kind; rw [hk] at this; exact this
  obtain ⟨B, h1, h2, h3, h4⟩ := hs.ev hx hp
  obtain ⟨a', c', h5⟩ := hf B h2
  exact ⟨.int .i64 len, len_run ho w (by rw [h4, h5]; simp [Builtin.len_, run_underlying hu, goInt]), Rel.int _ _⟩
theorem Q_lenP {t e n b c sz off len cc : Nat} {x : Operand} {ti : TI} (hx : Ev (St.mk n0 env bl) p x (.pin n b c (subV b sz off len cc))) (ht : T t = some ti) (hk : ti.kind = .slice e) :
    PureOp P G (St.mk n0 env bl) ⟨dst, .call ⟨.builtin .len, #[x], #[t]⟩, ty, pos, after, gd⟩ p (.pv (.one (.int .i64 len))) := P_lenV hT rfl ht hk hx (fun B _ => ⟨_, _, rfl⟩)
theorem Q_indexP {t e n b c sz off len cc : Nat} {x y : Operand} {ti te : TI} {B : Blk} {k : IntKind} {i : Int} (hx : Ev (St.mk n0 env bl) p x (.pin n b c (subV b sz off len cc))) (hy : Ev (St.mk n0 env bl) p y (.pv (.one (.int k i)))) (ht : T t = some ti) (hk : ti.kind = .slice e) (he : T e = some te)
    (hl : lk bl n = some B) (hz : te.sz = B.sz) (hz' : sz = B.sz) (hi : p → 0 ≤ i ∧ i < len) : PureOp P G (St.mk n0 env bl) ⟨dst, .indexAddr t x y, ty, pos, after, gd⟩ p (.addr n (off + i.toNat) 0) := PureOp.val fun Φ β a w hs hp => by
  obtain ⟨B', h1, h2, h3, h4⟩ := hs.ev hx hp
  obtain rfl : B = B' := by rw [hl] at h2; exact Option.some.inj h2
  have hy' := AVRel.int (hs.ev hy hp)
  refine ⟨_, exec_val (m := Instr.indexAt t (a.eval x) (a.eval y)) (by simp only [execOp]) (by rw [h4, subV, hy']; exact run_indexAt hT ht hk he (hi hp).1 (hi hp).2 _ _ w), b, c, B, h1, hl, h3, ?_⟩
  rw [hz, hz', Nat.add_mul]; simp
/-- the slice that was lent, cut at its end -/
theorem Q_cutP {t e n b c sz len : Nat} {x hi : Operand} {ti te : TI} {B : Blk} {k : IntKind} {i : Int} (hx : Ev (St.mk n0 env bl) p x (.pin n b c (subV b sz 0 len (c - 0)))) (hb : Ev (St.mk n0 env bl) p hi (.pv (.one (.int k i)))) (ht : T t = some ti) (hk : ti.kind = .slice e) (he : T e = some te)
    (hl : lk bl n = some B) (hlen : len ≤ B.rows.length) (hr : p → 0 ≤ i ∧ i ≤ len) : PureOp P G (St.mk n0 env bl) ⟨dst, .slice t x none (some hi) none, ty, pos, after, gd⟩ p (.pv (.one (.sla b i.toNat c))) := PureOp.val fun Φ β a w hs hp => by
  have hu : P.underlying t = some (.slice e) := by have := (hT _ _ ht).kind; rw [hk] at this; exact this
  obtain ⟨B', h1, h2, h3, h4⟩ := hs.ev hx hp
  rw [show lk (St.mk n0 env bl).blks n = _ from hl] at h2
  obtain rfl := Option.some.inj h2
  have hcap := hs.slen hl h3 h1
  have h5 := AVRel.int (hs.ev hb hp)
  obtain ⟨r1, r2⟩ := hr hp
  refine ⟨.slice (some ⟨b, 0, none⟩) i.toNat c, exec_val (m := Instr.sliceAt t (a.eval x) none (some (a.eval hi)) none) (by simp only [execOp]; rfl) ?_, Rel.sla _ _ _⟩
  rw [h4, h5]
  have e2 : (Instr.sliceBound (.int k i) c .sliceAcap).run P w = .ok i.toNat w := run_bound ⟨r1, by omega⟩
  simp [subV, Instr.sliceAt, run_underlying hu, Instr.slice, Instr.sliceBounds, e2, run_sizeOf hT he, Addr.add_lit]
/-- a part of an own slice whose place is known -/
theorem Q_partV {t e n b c : Nat} {x lo hi : Operand} {ti te : TI} {B : Blk} {k k' : IntKind} {i j : Int} (hx : Ev (St.mk n0 env bl) p x (.pin n b c (slcV b c))) (ha : Ev (St.mk n0 env bl) p lo (.pv (.one (.int k i)))) (hb : Ev (St.mk n0 env bl) p hi (.pv (.one (.int k' j)))) (ht : T t = some ti) (hk : ti.kind = .slice e) (he : T e = some te)
    (hl : lk bl n = some B) (hr : p → 0 ≤ i ∧ i < j ∧ j ≤ B.rows.length) : PureOp P G (St.mk n0 env bl) ⟨dst, .slice t x (some lo) (some hi) none, ty, pos, after, gd⟩ p (.pin n b c (subV b te.sz i.toNat (j.toNat - i.toNat) (c - i.toNat))) := PureOp.val fun Φ β a w hs hp => by
  have hu : P.underlying t = some (.slice e) := by have := (hT _ _ ht).kind; rw [hk] at this; exact this
  obtain ⟨B', h1, h2, h3, h4⟩ := hs.ev hx hp
  rw [show lk (St.mk n0 env bl).blks n = _ from hl] at h2
  obtain rfl := Option.some.inj h2
  have hcap := hs.slen hl h3 h1
  have h5 := AVRel.int (hs.ev ha hp)
  have h6 := AVRel.int (hs.ev hb hp)
  obtain ⟨r1, r2, r3⟩ := hr hp
  refine ⟨_, exec_val (m := Instr.sliceAt t (a.eval x) (some (a.eval lo)) (some (a.eval hi)) none) (by simp only [execOp]; rfl) ?_, B, h1, hl, h3, rfl⟩
  rw [h4, h5, h6]
  have e1 : (Instr.sliceBound (.int k' j) c .sliceAcap).run P w = .ok j.toNat w := run_bound ⟨by omega, by omega⟩
  have e2 : (Instr.sliceBound (.int k i) j.toNat .sliceB).run P w = .ok i.toNat w := run_bound ⟨r1, by omega⟩
  have e3 : ¬ c = i.toNat := by omega
  simp [subV, slcV, Instr.sliceAt, run_underlying hu, Instr.slice, Instr.sliceBounds, e1, e2, e3, run_sizeOf hT he, Addr.add_lit]
end
end Lf
end
section
set_option linter.unusedVariables false
namespace Lf
open Go
section
variable {P : Program} {G : Ghost} {A : St} {T : TT}
theorem QX.Nil {o : Oper} {p : Prop} {v : AV} (hT : TOK P T) (h : TOK P T → PureOp P G A o p v := by
  intro hT
  first
    | (apply Q_nilCheck; (refine Ev.of rfl ?_; first | exact fun _ => ⟨⟩ | exact id | exact And.right | exact And.left | exact (·.1.2) | exact (·.1.1) | exact (·.1.1.1) | exact (·.1.1.2) | exact fun _ => by assumption | exact fun _ => rfl))
    | (apply Q_nilCheckp; (refine Ev.of rfl ?_; first | exact fun _ => ⟨⟩ | exact id | exact And.right | exact And.left | exact (·.1.2) | exact (·.1.1) | exact (·.1.1.1) | exact (·.1.1.2) | exact fun _ => by assumption | exact fun _ => rfl))) : PureOp P G A o p v := h hT
theorem QX.Move {o : Oper} {p : Prop} {v : AV} (hT : TOK P T) (h : TOK P T → PureOp P G A o p v := by
  intro hT
  first
    | (apply Q_unpin; (refine Ev.of rfl ?_; first | exact fun _ => ⟨⟩ | exact id | exact And.right | exact And.left | exact (·.1.2) | exact (·.1.1) | exact (·.1.1.1) | exact (·.1.1.2) | exact fun _ => by assumption | exact fun _ => rfl))
    | (apply Q_move; (refine Ev.of rfl ?_; first | exact fun _ => ⟨⟩ | exact id | exact And.right | exact And.left | exact (·.1.2) | exact (·.1.1) | exact (·.1.1.1) | exact (·.1.1.2) | exact fun _ => by assumption | exact fun _ => rfl))) : PureOp P G A o p v := h hT
theorem QX.Asg {o : Oper} {p : Prop} {v : AV} (hT : TOK P T) (h : TOK P T → PureOp P G A o p v := by
  intro hT
  first
    | (apply Q_assign; (refine Ev.of rfl ?_; first | exact fun _ => ⟨⟩ | exact id | exact And.right | exact And.left | exact (·.1.2) | exact (·.1.1) | exact (·.1.1.1) | exact (·.1.1.2) | exact fun _ => by assumption | exact fun _ => rfl))) : PureOp P G A o p v := h hT
theorem QX.Fld {o : Oper} {p : Prop} {v : AV} (hT : TOK P T) (h : TOK P T → PureOp P G A o p v := by
  intro hT
  first
    | (apply Q_fieldp hT; (refine Ev.of rfl ?_; first | exact fun _ => ⟨⟩ | exact id | exact And.right | exact And.left | exact (·.1.2) | exact (·.1.1) | exact (·.1.1.1) | exact (·.1.1.2) | exact fun _ => by assumption | exact fun _ => rfl); exact rfl; exact rfl; exact rfl; exact rfl; exact rfl)
    | (apply Q_field hT; (refine Ev.of rfl ?_; first | exact fun _ => ⟨⟩ | exact id | exact And.right | exact And.left | exact (·.1.2) | exact (·.1.1) | exact (·.1.1.1) | exact (·.1.1.2) | exact fun _ => by assumption | exact fun _ => rfl); exact rfl; exact rfl; exact rfl; exact rfl; exact rfl)) : PureOp P G A o p v := h hT
theorem QX.Ld {o : Oper} {p : Prop} {v : AV} (hT : TOK P T) (h : TOK P T → PureOp P G A o p v := by
  intro hT
  first
    | (apply Q_loadp hT; exact rfl; exact rfl; (refine Ev.of rfl ?_; first | exact fun _ => ⟨⟩ | exact id | exact And.right | exact And.left | exact (·.1.2) | exact (·.1.1) | exact (·.1.1.1) | exact (·.1.1.2) | exact fun _ => by assumption | exact fun _ => rfl); exact rfl)
    | (apply Q_load hT; exact rfl; exact rfl; (refine Ev.of rfl ?_; first | exact fun _ => ⟨⟩ | exact id | exact And.right | exact And.left | exact (·.1.2) | exact (·.1.1) | exact (·.1.1.1) | exact (·.1.1.2) | exact fun _ => by assumption | exact fun _ => rfl); exact rfl; exact rfl; exact rfl)
    | (apply Q_loadm hT; exact rfl; exact rfl; (refine Ev.of rfl ?_; first | exact fun _ => ⟨⟩ | exact id | exact And.right | exact And.left | exact (·.1.2) | exact (·.1.1) | exact (·.1.1.1) | exact (·.1.1.2) | exact fun _ => by assumption | exact fun _ => rfl); exact rfl; (case I => infer_instance); (intro hg; first | omega | (simp; omega) | (simp at hg; simp; omega)); exact rfl)
    | (apply Q_loadpa hT; exact rfl; exact rfl; (refine Ev.of rfl ?_; first | exact fun _ => ⟨⟩ | exact id | exact And.right | exact And.left | exact (·.1.2) | exact (·.1.1) | exact (·.1.1.1) | exact (·.1.1.2) | exact fun _ => by assumption | exact fun _ => rfl); exact rfl)
    | (apply Q_loada hT; exact rfl; exact rfl; (refine Ev.of rfl ?_; first | exact fun _ => ⟨⟩ | exact id | exact And.right | exact And.left | exact (·.1.2) | exact (·.1.1) | exact (·.1.1.1) | exact (·.1.1.2) | exact fun _ => by assumption | exact fun _ => rfl); exact rfl; exact rfl; exact rfl)
    | (apply Q_loadmb hT; exact rfl; exact rfl; exact rfl; (refine Ev.of rfl ?_; first | exact fun _ => ⟨⟩ | exact id | exact And.right | exact And.left | exact (·.1.2) | exact (·.1.1) | exact (·.1.1.1) | exact (·.1.1.2) | exact fun _ => by assumption | exact fun _ => rfl); exact rfl; (case I => infer_instance); (intro hg; first | omega | (simp; omega) | (simp at hg; simp; omega)); exact rfl; exact rfl)) : PureOp P G A o p v := h hT
theorem QX.Bin {o : Oper} {p : Prop} {v : AV} (hT : TOK P T) (h : TOK P T → PureOp P G A o p v := by
  intro hT
  first
    | (apply Q_add; (refine Ev.of rfl ?_; first | exact fun _ => ⟨⟩ | exact id | exact And.right | exact And.left | exact (·.1.2) | exact (·.1.1) | exact (·.1.1.1) | exact (·.1.1.2) | exact fun _ => by assumption | exact fun _ => rfl); (refine Ev.of rfl ?_; first | exact fun _ => ⟨⟩ | exact id | exact And.right | exact And.left | exact (·.1.2) | exact (·.1.1) | exact (·.1.1.1) | exact (·.1.1.2) | exact fun _ => by assumption | exact fun _ => rfl); (first | omega | (constructor <;> omega)))
    | (apply Q_sub; (refine Ev.of rfl ?_; first | exact fun _ => ⟨⟩ | exact id | exact And.right | exact And.left | exact (·.1.2) | exact (·.1.1) | exact (·.1.1.1) | exact (·.1.1.2) | exact fun _ => by assumption | exact fun _ => rfl); (refine Ev.of rfl ?_; first | exact fun _ => ⟨⟩ | exact id | exact And.right | exact And.left | exact (·.1.2) | exact (·.1.1) | exact (·.1.1.1) | exact (·.1.1.2) | exact fun _ => by assumption | exact fun _ => rfl); (first | omega | (constructor <;> omega)))
    | (apply Q_mul; (refine Ev.of rfl ?_; first | exact fun _ => ⟨⟩ | exact id | exact And.right | exact And.left | exact (·.1.2) | exact (·.1.1) | exact (·.1.1.1) | exact (·.1.1.2) | exact fun _ => by assumption | exact fun _ => rfl); (refine Ev.of rfl ?_; first | exact fun _ => ⟨⟩ | exact id | exact And.right | exact And.left | exact (·.1.2) | exact (·.1.1) | exact (·.1.1.1) | exact (·.1.1.2) | exact fun _ => by assumption | exact fun _ => rfl); (first | omega | (constructor <;> omega)))
    | (apply Q_quoN; (refine Ev.of rfl ?_; first | exact fun _ => ⟨⟩ | exact id | exact And.right | exact And.left | exact (·.1.2) | exact (·.1.1) | exact (·.1.1.1) | exact (·.1.1.2) | exact fun _ => by assumption | exact fun _ => rfl); (refine Ev.of rfl ?_; first | exact fun _ => ⟨⟩ | exact id | exact And.right | exact And.left | exact (·.1.2) | exact (·.1.1) | exact (·.1.1.1) | exact (·.1.1.2) | exact fun _ => by assumption | exact fun _ => rfl); (first | omega | (constructor <;> omega)))
    | (apply Q_remN; (refine Ev.of rfl ?_; first | exact fun _ => ⟨⟩ | exact id | exact And.right | exact And.left | exact (·.1.2) | exact (·.1.1) | exact (·.1.1.1) | exact (·.1.1.2) | exact fun _ => by assumption | exact fun _ => rfl); (refine Ev.of rfl ?_; first | exact fun _ => ⟨⟩ | exact id | exact And.right | exact And.left | exact (·.1.2) | exact (·.1.1) | exact (·.1.1.1) | exact (·.1.1.2) | exact fun _ => by assumption | exact fun _ => rfl); (first | omega | (constructor <;> omega)))
    | (apply Q_add8; (refine Ev.of rfl ?_; first | exact fun _ => ⟨⟩ | exact id | exact And.right | exact And.left | exact (·.1.2) | exact (·.1.1) | exact (·.1.1.1) | exact (·.1.1.2) | exact fun _ => by assumption | exact fun _ => rfl); (refine Ev.of rfl ?_; first | exact fun _ => ⟨⟩ | exact id | exact And.right | exact And.left | exact (·.1.2) | exact (·.1.1) | exact (·.1.1.1) | exact (·.1.1.2) | exact fun _ => by assumption | exact fun _ => rfl); (first | omega | (constructor <;> omega)))
    | (apply Q_sub8; (refine Ev.of rfl ?_; first | exact fun _ => ⟨⟩ | exact id | exact And.right | exact And.left | exact (·.1.2) | exact (·.1.1) | exact (·.1.1.1) | exact (·.1.1.2) | exact fun _ => by assumption | exact fun _ => rfl); (refine Ev.of rfl ?_; first | exact fun _ => ⟨⟩ | exact id | exact And.right | exact And.left | exact (·.1.2) | exact (·.1.1) | exact (·.1.1.1) | exact (·.1.1.2) | exact fun _ => by assumption | exact fun _ => rfl); (first | omega | (constructor <;> omega)))
    | (apply Q_bin; (refine Ev.of rfl ?_; first | exact fun _ => ⟨⟩ | exact id | exact And.right | exact And.left | exact (·.1.2) | exact (·.1.1) | exact (·.1.1.1) | exact (·.1.1.2) | exact fun _ => by assumption | exact fun _ => rfl); (refine Ev.of rfl ?_; first | exact fun _ => ⟨⟩ | exact id | exact And.right | exact And.left | exact (·.1.2) | exact (·.1.1) | exact (·.1.1.1) | exact (·.1.1.2) | exact fun _ => by assumption | exact fun _ => rfl); exact rfl)
    | (apply Q_binS; (refine Ev.of rfl ?_; first | exact fun _ => ⟨⟩ | exact id | exact And.right | exact And.left | exact (·.1.2) | exact (·.1.1) | exact (·.1.1.1) | exact (·.1.1.2) | exact fun _ => by assumption | exact fun _ => rfl); (refine Ev.of rfl ?_; first | exact fun _ => ⟨⟩ | exact id | exact And.right | exact And.left | exact (·.1.2) | exact (·.1.1) | exact (·.1.1.1) | exact (·.1.1.2) | exact fun _ => by assumption | exact fun _ => rfl); exact rfl)
    | (apply Q_binB hT; (refine Ev.of rfl ?_; first | exact fun _ => ⟨⟩ | exact id | exact And.right | exact And.left | exact (·.1.2) | exact (·.1.1) | exact (·.1.1.1) | exact (·.1.1.2) | exact fun _ => by assumption | exact fun _ => rfl); (refine Ev.of rfl ?_; first | exact fun _ => ⟨⟩ | exact id | exact And.right | exact And.left | exact (·.1.2) | exact (·.1.1) | exact (·.1.1.1) | exact (·.1.1.2) | exact fun _ => by assumption | exact fun _ => rfl); exact rfl; exact rfl; exact rfl)
    | (apply Q_cat; (refine Ev.of rfl ?_; first | exact fun _ => ⟨⟩ | exact id | exact And.right | exact And.left | exact (·.1.2) | exact (·.1.1) | exact (·.1.1.1) | exact (·.1.1.2) | exact fun _ => by assumption | exact fun _ => rfl); (refine Ev.of rfl ?_; first | exact fun _ => ⟨⟩ | exact id | exact And.right | exact And.left | exact (·.1.2) | exact (·.1.1) | exact (·.1.1.1) | exact (·.1.1.2) | exact fun _ => by assumption | exact fun _ => rfl); (intro hg; first | omega | (simp; omega) | (simp at hg ⊢; omega)))) : PureOp P G A o p v := h hT
theorem QX.Pick {o : Oper} {p : Prop} {v : AV} (hT : TOK P T) (h : TOK P T → PureOp P G A o p v := by
  intro hT
  first
    | (apply Q_or; (refine Ev.of rfl ?_; first | exact fun _ => ⟨⟩ | exact id | exact And.right | exact And.left | exact (·.1.2) | exact (·.1.1) | exact (·.1.1.1) | exact (·.1.1.2) | exact fun _ => by assumption | exact fun _ => rfl); (refine Ev.of rfl ?_; first | exact fun _ => ⟨⟩ | exact id | exact And.right | exact And.left | exact (·.1.2) | exact (·.1.1) | exact (·.1.1.1) | exact (·.1.1.2) | exact fun _ => by assumption | exact fun _ => rfl))
    | (apply Q_and; (refine Ev.of rfl ?_; first | exact fun _ => ⟨⟩ | exact id | exact And.right | exact And.left | exact (·.1.2) | exact (·.1.1) | exact (·.1.1.1) | exact (·.1.1.2) | exact fun _ => by assumption | exact fun _ => rfl); (refine Ev.of rfl ?_; first | exact fun _ => ⟨⟩ | exact id | exact And.right | exact And.left | exact (·.1.2) | exact (·.1.1) | exact (·.1.1.1) | exact (·.1.1.2) | exact fun _ => by assumption | exact fun _ => rfl))
    | (apply Q_andF; (refine Ev.of rfl ?_; first | exact fun _ => ⟨⟩ | exact id | exact And.right | exact And.left | exact (·.1.2) | exact (·.1.1) | exact (·.1.1.1) | exact (·.1.1.2) | exact fun _ => by assumption | exact fun _ => rfl); (first | assumption | exact rfl))
    | (apply Q_orT; (refine Ev.of rfl ?_; first | exact fun _ => ⟨⟩ | exact id | exact And.right | exact And.left | exact (·.1.2) | exact (·.1.1) | exact (·.1.1.1) | exact (·.1.1.2) | exact fun _ => by assumption | exact fun _ => rfl); (first | assumption | exact rfl))) : PureOp P G A o p v := h hT
theorem QX.Un {o : Oper} {p : Prop} {v : AV} (hT : TOK P T) (h : TOK P T → PureOp P G A o p v := by
  intro hT
  first
    | (apply Q_not; (refine Ev.of rfl ?_; first | exact fun _ => ⟨⟩ | exact id | exact And.right | exact And.left | exact (·.1.2) | exact (·.1.1) | exact (·.1.1.1) | exact (·.1.1.2) | exact fun _ => by assumption | exact fun _ => rfl))
    | (apply Q_neg; (refine Ev.of rfl ?_; first | exact fun _ => ⟨⟩ | exact id | exact And.right | exact And.left | exact (·.1.2) | exact (·.1.1) | exact (·.1.1.1) | exact (·.1.1.2) | exact fun _ => by assumption | exact fun _ => rfl); (first | omega | (constructor <;> omega)))) : PureOp P G A o p v := h hT
theorem QX.Num {o : Oper} {p : Prop} {v : AV} (hT : TOK P T) (h : TOK P T → PureOp P G A o p v := by
  intro hT
  first
    | (apply Q_max; (refine Ev.of rfl ?_; first | exact fun _ => ⟨⟩ | exact id | exact And.right | exact And.left | exact (·.1.2) | exact (·.1.1) | exact (·.1.1.1) | exact (·.1.1.2) | exact fun _ => by assumption | exact fun _ => rfl); (refine Ev.of rfl ?_; first | exact fun _ => ⟨⟩ | exact id | exact And.right | exact And.left | exact (·.1.2) | exact (·.1.1) | exact (·.1.1.1) | exact (·.1.1.2) | exact fun _ => by assumption | exact fun _ => rfl))
    | (apply Q_min; (refine Ev.of rfl ?_; first | exact fun _ => ⟨⟩ | exact id | exact And.right | exact And.left | exact (·.1.2) | exact (·.1.1) | exact (·.1.1.1) | exact (·.1.1.2) | exact fun _ => by assumption | exact fun _ => rfl); (refine Ev.of rfl ?_; first | exact fun _ => ⟨⟩ | exact id | exact And.right | exact And.left | exact (·.1.2) | exact (·.1.1) | exact (·.1.1.1) | exact (·.1.1.2) | exact fun _ => by assumption | exact fun _ => rfl))) : PureOp P G A o p v := h hT
theorem QX.Len {o : Oper} {p : Prop} {v : AV} (hT : TOK P T) (h : TOK P T → PureOp P G A o p v := by
  intro hT
  first
    | (apply Q_lenm hT; (refine Ev.of rfl ?_; first | exact fun _ => ⟨⟩ | exact id | exact And.right | exact And.left | exact (·.1.2) | exact (·.1.1) | exact (·.1.1.1) | exact (·.1.1.2) | exact fun _ => by assumption | exact fun _ => rfl); exact rfl; exact rfl)
    | (apply Q_lend hT; (refine Ev.of rfl ?_; first | exact fun _ => ⟨⟩ | exact id | exact And.right | exact And.left | exact (·.1.2) | exact (·.1.1) | exact (·.1.1.1) | exact (·.1.1.2) | exact fun _ => by assumption | exact fun _ => rfl); exact rfl; exact rfl)
    | (apply Q_lenom hT; (refine Ev.of rfl ?_; first | exact fun _ => ⟨⟩ | exact id | exact And.right | exact And.left | exact (·.1.2) | exact (·.1.1) | exact (·.1.1.1) | exact (·.1.1.2) | exact fun _ => by assumption | exact fun _ => rfl); exact rfl; exact rfl; exact rfl)
    | (apply Q_len hT; (refine Ev.of rfl ?_; first | exact fun _ => ⟨⟩ | exact id | exact And.right | exact And.left | exact (·.1.2) | exact (·.1.1) | exact (·.1.1.1) | exact (·.1.1.2) | exact fun _ => by assumption | exact fun _ => rfl); exact rfl; exact rfl; exact rfl)
    | (apply Q_len0 hT; (refine Ev.of rfl ?_; first | exact fun _ => ⟨⟩ | exact id | exact And.right | exact And.left | exact (·.1.2) | exact (·.1.1) | exact (·.1.1.1) | exact (·.1.1.2) | exact fun _ => by assumption | exact fun _ => rfl); exact rfl; exact rfl)
    | (apply Q_lens hT; (refine Ev.of rfl ?_; first | exact fun _ => ⟨⟩ | exact id | exact And.right | exact And.left | exact (·.1.2) | exact (·.1.1) | exact (·.1.1.1) | exact (·.1.1.2) | exact fun _ => by assumption | exact fun _ => rfl); exact rfl; exact rfl)) : PureOp P G A o p v := h hT
theorem QX.Idx {o : Oper} {p : Prop} {v : AV} (hT : TOK P T) (h : TOK P T → PureOp P G A o p v := by
  intro hT
  first
    | (apply Q_indexd hT; (refine Ev.of rfl ?_; first | exact fun _ => ⟨⟩ | exact id | exact And.right | exact And.left | exact (·.1.2) | exact (·.1.1) | exact (·.1.1.1) | exact (·.1.1.2) | exact fun _ => by assumption | exact fun _ => rfl); (refine Ev.of rfl ?_; first | exact fun _ => ⟨⟩ | exact id | exact And.right | exact And.left | exact (·.1.2) | exact (·.1.1) | exact (·.1.1.1) | exact (·.1.1.2) | exact fun _ => by assumption | exact fun _ => rfl); exact rfl; exact rfl; exact rfl; (intro hg; first | exact getRowN (by first | omega | (simp at hg; omega)) | exact getRowI (by first | omega | (simp at hg; omega))); exact rfl)
    | (apply Q_index hT; (refine Ev.of rfl ?_; first | exact fun _ => ⟨⟩ | exact id | exact And.right | exact And.left | exact (·.1.2) | exact (·.1.1) | exact (·.1.1.1) | exact (·.1.1.2) | exact fun _ => by assumption | exact fun _ => rfl); (refine Ev.of rfl ?_; first | exact fun _ => ⟨⟩ | exact id | exact And.right | exact And.left | exact (·.1.2) | exact (·.1.1) | exact (·.1.1.1) | exact (·.1.1.2) | exact fun _ => by assumption | exact fun _ => rfl); exact rfl; exact rfl; exact rfl; exact rfl; exact rfl; (intro hg; first | (simp; omega) | (simp at hg; simp; omega)))) : PureOp P G A o p v := h hT
theorem QX.Idxs {o : Oper} {p : Prop} {v : AV} (hT : TOK P T) (h : TOK P T → PureOp P G A o p v := by
  intro hT
  first
    | (apply Q_indexs hT; (refine Ev.of rfl ?_; first | exact fun _ => ⟨⟩ | exact id | exact And.right | exact And.left | exact (·.1.2) | exact (·.1.1) | exact (·.1.1.1) | exact (·.1.1.2) | exact fun _ => by assumption | exact fun _ => rfl); (refine Ev.of rfl ?_; first | exact fun _ => ⟨⟩ | exact id | exact And.right | exact And.left | exact (·.1.2) | exact (·.1.1) | exact (·.1.1.1) | exact (·.1.1.2) | exact fun _ => by assumption | exact fun _ => rfl); exact rfl; exact rfl; (intro hg; first | exact strAt (by first | omega | (simp at hg; omega) | (simp at hg; done) | fail) | (refine strAt ?_; simp at hg; first | exact Int.ofNat_lt.1 hg | exact Int.ofNat_lt.1 hg.1 | exact Int.ofNat_lt.1 hg.2)))) : PureOp P G A o p v := h hT
theorem QX.Ext {o : Oper} {p : Prop} {v : AV} (hT : TOK P T) (h : TOK P T → PureOp P G A o p v := by
  intro hT
  first
    | (apply Q_extract; (refine Ev.of rfl ?_; first | exact fun _ => ⟨⟩ | exact id | exact And.right | exact And.left | exact (·.1.2) | exact (·.1.1) | exact (·.1.1.1) | exact (·.1.1.2) | exact fun _ => by assumption | exact fun _ => rfl); exact rfl)) : PureOp P G A o p v := h hT
theorem QX.Conv {o : Oper} {p : Prop} {v : AV} (hT : TOK P T) (h : TOK P T → PureOp P G A o p v := by
  intro hT
  first
    | (apply Q_convI hT; exact rfl; exact rfl; exact rfl; exact rfl; (refine Ev.of rfl ?_; first | exact fun _ => ⟨⟩ | exact id | exact And.right | exact And.left | exact (·.1.2) | exact (·.1.1) | exact (·.1.1.1) | exact (·.1.1.2) | exact fun _ => by assumption | exact fun _ => rfl); (first | omega | (constructor <;> omega)))
    | (apply Q_conv hT; exact rfl; exact rfl; exact rfl; exact rfl; (refine Ev.of rfl ?_; first | exact fun _ => ⟨⟩ | exact id | exact And.right | exact And.left | exact (·.1.2) | exact (·.1.1) | exact (·.1.1.1) | exact (·.1.1.2) | exact fun _ => by assumption | exact fun _ => rfl))) : PureOp P G A o p v := h hT
theorem QX.Build {o : Oper} {p : Prop} {v : AV} (hT : TOK P T) (h : TOK P T → PureOp P G A o p v := by
  intro hT
  first
    | (apply Q_build hT; (repeat (first | exact EvP.nil | apply EvP.cons (by refine Ev.of rfl ?_; first | exact fun _ => ⟨⟩ | exact id | exact And.right | exact And.left | exact (·.1.2) | exact (·.1.1) | exact (·.1.1.1) | exact (·.1.1.2) | exact fun _ => by assumption | exact fun _ => rfl))); exact rfl; exact rfl; exact rfl; exact rfl)) : PureOp P G A o p v := h hT
theorem QX.Fun {o : Oper} {p : Prop} {v : AV} (hT : TOK P T) (h : TOK P T → PureOp P G A o p v := by
  intro hT
  first
    | (apply Q_makeFunc0; )
    | (apply Q_makeFunc; (repeat (first | exact EvC.nil | apply EvC.cons (by refine Ev.of rfl ?_; first | exact fun _ => ⟨⟩ | exact id | exact And.right | exact And.left | exact (·.1.2) | exact (·.1.1) | exact (·.1.1.1) | exact (·.1.1.2) | exact fun _ => by assumption | exact fun _ => rfl))))) : PureOp P G A o p v := h hT
theorem QX.Cut {o : Oper} {p : Prop} {v : AV} (hT : TOK P T) (h : TOK P T → PureOp P G A o p v := by
  intro hT
  first
    | (apply Q_sub2 hT; (refine Ev.of rfl ?_; first | exact fun _ => ⟨⟩ | exact id | exact And.right | exact And.left | exact (·.1.2) | exact (·.1.1) | exact (·.1.1.1) | exact (·.1.1.2) | exact fun _ => by assumption | exact fun _ => rfl); (refine Ev.of rfl ?_; first | exact fun _ => ⟨⟩ | exact id | exact And.right | exact And.left | exact (·.1.2) | exact (·.1.1) | exact (·.1.1.1) | exact (·.1.1.2) | exact fun _ => by assumption | exact fun _ => rfl); (refine Ev.of rfl ?_; first | exact fun _ => ⟨⟩ | exact id | exact And.right | exact And.left | exact (·.1.2) | exact (·.1.1) | exact (·.1.1.1) | exact (·.1.1.2) | exact fun _ => by assumption | exact fun _ => rfl); exact rfl; exact rfl; (intro hg; first | omega | (simp; omega) | (simp at hg ⊢; omega)))
    | (apply Q_sub1 hT; (refine Ev.of rfl ?_; first | exact fun _ => ⟨⟩ | exact id | exact And.right | exact And.left | exact (·.1.2) | exact (·.1.1) | exact (·.1.1.1) | exact (·.1.1.2) | exact fun _ => by assumption | exact fun _ => rfl); (refine Ev.of rfl ?_; first | exact fun _ => ⟨⟩ | exact id | exact And.right | exact And.left | exact (·.1.2) | exact (·.1.1) | exact (·.1.1.1) | exact (·.1.1.2) | exact fun _ => by assumption | exact fun _ => rfl); exact rfl; exact rfl; (intro hg; first | omega | (simp; omega) | (simp at hg ⊢; omega)))
    | (apply Q_sub0 hT; (refine Ev.of rfl ?_; first | exact fun _ => ⟨⟩ | exact id | exact And.right | exact And.left | exact (·.1.2) | exact (·.1.1) | exact (·.1.1.1) | exact (·.1.1.2) | exact fun _ => by assumption | exact fun _ => rfl); (refine Ev.of rfl ?_; first | exact fun _ => ⟨⟩ | exact id | exact And.right | exact And.left | exact (·.1.2) | exact (·.1.1) | exact (·.1.1.1) | exact (·.1.1.2) | exact fun _ => by assumption | exact fun _ => rfl); exact rfl; exact rfl; (intro hg; first | omega | (simp; omega) | (simp at hg ⊢; omega)))
    | (apply Q_cut2 hT; (refine Ev.of rfl ?_; first | exact fun _ => ⟨⟩ | exact id | exact And.right | exact And.left | exact (·.1.2) | exact (·.1.1) | exact (·.1.1.1) | exact (·.1.1.2) | exact fun _ => by assumption | exact fun _ => rfl); (refine Ev.of rfl ?_; first | exact fun _ => ⟨⟩ | exact id | exact And.right | exact And.left | exact (·.1.2) | exact (·.1.1) | exact (·.1.1.1) | exact (·.1.1.2) | exact fun _ => by assumption | exact fun _ => rfl); (refine Ev.of rfl ?_; first | exact fun _ => ⟨⟩ | exact id | exact And.right | exact And.left | exact (·.1.2) | exact (·.1.1) | exact (·.1.1.1) | exact (·.1.1.2) | exact fun _ => by assumption | exact fun _ => rfl); exact rfl; exact rfl; exact rfl; (intro r hr; first | (obtain ⟨_, _, rfl⟩ := List.mem_map.1 hr; rfl) | (obtain ⟨_, _, rfl⟩ := List.mem_map.1 hr; simp; done)); (intro hg; first | omega | (simp; omega) | (simp at hg ⊢; omega)))
    | (apply Q_cut1 hT; (refine Ev.of rfl ?_; first | exact fun _ => ⟨⟩ | exact id | exact And.right | exact And.left | exact (·.1.2) | exact (·.1.1) | exact (·.1.1.1) | exact (·.1.1.2) | exact fun _ => by assumption | exact fun _ => rfl); (refine Ev.of rfl ?_; first | exact fun _ => ⟨⟩ | exact id | exact And.right | exact And.left | exact (·.1.2) | exact (·.1.1) | exact (·.1.1.1) | exact (·.1.1.2) | exact fun _ => by assumption | exact fun _ => rfl); exact rfl; exact rfl; exact rfl; (intro r hr; first | (obtain ⟨_, _, rfl⟩ := List.mem_map.1 hr; rfl) | (obtain ⟨_, _, rfl⟩ := List.mem_map.1 hr; simp; done)); (intro hg; first | omega | (simp; omega) | (simp at hg ⊢; omega)))
    | (apply Q_cut0 hT; (refine Ev.of rfl ?_; first | exact fun _ => ⟨⟩ | exact id | exact And.right | exact And.left | exact (·.1.2) | exact (·.1.1) | exact (·.1.1.1) | exact (·.1.1.2) | exact fun _ => by assumption | exact fun _ => rfl); (refine Ev.of rfl ?_; first | exact fun _ => ⟨⟩ | exact id | exact And.right | exact And.left | exact (·.1.2) | exact (·.1.1) | exact (·.1.1.1) | exact (·.1.1.2) | exact fun _ => by assumption | exact fun _ => rfl); exact rfl; exact rfl; exact rfl; (intro r hr; first | (obtain ⟨_, _, rfl⟩ := List.mem_map.1 hr; rfl) | (obtain ⟨_, _, rfl⟩ := List.mem_map.1 hr; simp; done)); (intro hg; first | omega | (simp; omega) | (simp at hg ⊢; omega)))) : PureOp P G A o p v := h hT
def Stp (P : Program) (G : Ghost) (o : Oper) (A B : St) : Prop := ∀ (ops : Array Oper) (rest : List Oper) (Q : St → Prop), RG P G ops rest Q B → RG P G ops (o :: rest) Q A
theorem SX.Alloc {o : Oper} {B : St} {ops : Array Oper} {rest : List Oper} {Q : St → Prop} (hT : TOK P T) (hs : TOK P T → Stp P G o A B := by
  intro hT ops rest Q h
  first
    | (apply S_alloc hT; exact rfl; exact rfl; exact rfl; exact rfl; exact h)) (h : RG P G ops rest Q B) : RG P G ops (o :: rest) Q A := hs hT ops rest Q h
theorem SX.Store {o : Oper} {B : St} {ops : Array Oper} {rest : List Oper} {Q : St → Prop} (hT : TOK P T) (hs : TOK P T → Stp P G o A B := by
  intro hT ops rest Q h
  first
    | (apply S_store hT; (refine Ev.of rfl ?_; first | exact fun _ => ⟨⟩ | exact id | exact And.right | exact And.left | exact (·.1.2) | exact (·.1.1) | exact (·.1.1.1) | exact (·.1.1.2) | exact fun _ => by assumption | exact fun _ => rfl); (refine Ev.of rfl ?_; first | exact fun _ => ⟨⟩ | exact id | exact And.right | exact And.left | exact (·.1.2) | exact (·.1.1) | exact (·.1.1.1) | exact (·.1.1.2) | exact fun _ => by assumption | exact fun _ => rfl); exact rfl; exact rfl; exact rfl; exact rfl; exact rfl; exact h)
    | (apply S_storem hT; (refine Ev.of rfl ?_; first | exact fun _ => ⟨⟩ | exact id | exact And.right | exact And.left | exact (·.1.2) | exact (·.1.1) | exact (·.1.1.1) | exact (·.1.1.2) | exact fun _ => by assumption | exact fun _ => rfl); (refine Ev.of rfl ?_; first | exact fun _ => ⟨⟩ | exact id | exact And.right | exact And.left | exact (·.1.2) | exact (·.1.1) | exact (·.1.1.1) | exact (·.1.1.2) | exact fun _ => by assumption | exact fun _ => rfl); exact rfl; exact rfl; (first | omega | (simp; omega)); exact rfl; (intro z; exact rfl); exact h)) (h : RG P G ops rest Q B) : RG P G ops (o :: rest) Q A := hs hT ops rest Q h
theorem SX.Lit {o : Oper} {B : St} {ops : Array Oper} {rest : List Oper} {Q : St → Prop} (hT : TOK P T) (hs : TOK P T → Stp P G o A B := by
  intro hT ops rest Q h
  first
    | (apply S_lit hT; (repeat (first | exact EvR.nil | apply EvR.cons (by refine Ev.of rfl ?_; first | exact fun _ => ⟨⟩ | exact id | exact And.right | exact And.left | exact (·.1.2) | exact (·.1.1) | exact (·.1.1.1) | exact (·.1.1.2) | exact fun _ => by assumption | exact fun _ => rfl))); exact rfl; exact rfl; exact rfl; exact rfl; exact rfl; exact rfl; exact rfl; exact rfl; exact rfl; exact h)) (h : RG P G ops rest Q B) : RG P G ops (o :: rest) Q A := hs hT ops rest Q h
theorem SX.Make {o : Oper} {B : St} {ops : Array Oper} {rest : List Oper} {Q : St → Prop} (hT : TOK P T) (hs : TOK P T → Stp P G o A B := by
  intro hT ops rest Q h
  first
    | (apply S_make hT; (refine Ev.of rfl ?_; first | exact fun _ => ⟨⟩ | exact id | exact And.right | exact And.left | exact (·.1.2) | exact (·.1.1) | exact (·.1.1.1) | exact (·.1.1.2) | exact fun _ => by assumption | exact fun _ => rfl); (refine Ev.of rfl ?_; first | exact fun _ => ⟨⟩ | exact id | exact And.right | exact And.left | exact (·.1.2) | exact (·.1.1) | exact (·.1.1.1) | exact (·.1.1.2) | exact fun _ => by assumption | exact fun _ => rfl); exact rfl; exact rfl; exact rfl; exact rfl; (refine ⟨by omega, by omega, by simp; omega, by omega⟩); exact rfl; exact rfl; exact h)) (h : RG P G ops rest Q B) : RG P G ops (o :: rest) Q A := hs hT ops rest Q h
theorem SX.App {o : Oper} {B : St} {ops : Array Oper} {rest : List Oper} {Q : St → Prop} (hT : TOK P T) (hs : TOK P T → Stp P G o A B := by
  intro hT ops rest Q h
  first
    | (apply S_append hT; (refine Ev.of rfl ?_; first | exact fun _ => ⟨⟩ | exact id | exact And.right | exact And.left | exact (·.1.2) | exact (·.1.1) | exact (·.1.1.1) | exact (·.1.1.2) | exact fun _ => by assumption | exact fun _ => rfl); (refine Ev.of rfl ?_; first | exact fun _ => ⟨⟩ | exact id | exact And.right | exact And.left | exact (·.1.2) | exact (·.1.1) | exact (·.1.1.1) | exact (·.1.1.2) | exact fun _ => by assumption | exact fun _ => rfl); exact rfl; exact rfl; exact rfl; exact rfl; exact rfl; exact rfl; exact rfl; exact rfl; exact rfl; exact rfl; (constructor <;> simp <;> omega); exact rfl; exact h)
    | (apply S_append0 hT; (refine Ev.of rfl ?_; first | exact fun _ => ⟨⟩ | exact id | exact And.right | exact And.left | exact (·.1.2) | exact (·.1.1) | exact (·.1.1.1) | exact (·.1.1.2) | exact fun _ => by assumption | exact fun _ => rfl); (refine Ev.of rfl ?_; first | exact fun _ => ⟨⟩ | exact id | exact And.right | exact And.left | exact (·.1.2) | exact (·.1.1) | exact (·.1.1.1) | exact (·.1.1.2) | exact fun _ => by assumption | exact fun _ => rfl); exact rfl; exact rfl; exact rfl; exact rfl; exact rfl; exact rfl; exact rfl; (constructor <;> simp <;> omega); exact rfl; exact rfl; exact h)
    | (apply S_appendd hT; (refine Ev.of rfl ?_; first | exact fun _ => ⟨⟩ | exact id | exact And.right | exact And.left | exact (·.1.2) | exact (·.1.1) | exact (·.1.1.1) | exact (·.1.1.2) | exact fun _ => by assumption | exact fun _ => rfl); (refine Ev.of rfl ?_; first | exact fun _ => ⟨⟩ | exact id | exact And.right | exact And.left | exact (·.1.2) | exact (·.1.1) | exact (·.1.1.1) | exact (·.1.1.2) | exact fun _ => by assumption | exact fun _ => rfl); exact rfl; exact rfl; exact rfl; exact rfl; exact rfl; exact rfl; exact rfl; exact rfl; (intro r hr; obtain ⟨_, _, rfl⟩ := List.mem_map.1 hr; rfl); (constructor <;> simp <;> omega); exact rfl; exact h)) (h : RG P G ops rest Q B) : RG P G ops (o :: rest) Q A := hs hT ops rest Q h
theorem SX.Box {o : Oper} {B : St} {ops : Array Oper} {rest : List Oper} {Q : St → Prop} (hT : TOK P T) (hs : TOK P T → Stp P G o A B := by
  intro hT ops rest Q h
  first
    | (apply S_box; (refine Ev.of rfl ?_; first | exact fun _ => ⟨⟩ | exact id | exact And.right | exact And.left | exact (·.1.2) | exact (·.1.1) | exact (·.1.1.1) | exact (·.1.1.2) | exact fun _ => by assumption | exact fun _ => rfl); exact rfl; exact rfl; exact rfl; exact h)) (h : RG P G ops rest Q B) : RG P G ops (o :: rest) Q A := hs hT ops rest Q h
theorem Ev.auto {p : Prop} {x : Operand} {v : AV} (h : Ev A p x v := by refine Ev.of rfl ?_; first | exact fun _ => ⟨⟩ | exact id | exact And.right | exact And.left | exact (·.1.2) | exact (·.1.1) | exact (·.1.1.1) | exact (·.1.1.2) | exact fun _ => by assumption | exact fun _ => rfl) : Ev A p x v := h
theorem EvL.auto {p : Prop} {xs : List Operand} {qs : List PV} (h : EvL A p xs qs := by first | ((repeat (first | exact EvL.nil | refine EvL.cons (by refine Ev.of rfl ?_; first | exact fun _ => ⟨⟩ | exact id | exact And.right | exact And.left | exact (·.1.2) | exact (·.1.1) | exact (·.1.1.1) | exact (·.1.1.2) | exact fun _ => by assumption | exact fun _ => rfl) rfl (by first | exact PSub.rfl' | exact PSub.nil' | (refine PSub.of_eq ?_; simp only [List.map_append, List.map_cons, List.map_nil, List.nil_append] <;> rfl) | (refine PSub.of_eq ?_; show PV.one (Cell.sl _) = PV.one (Cell.sl _); simp only [List.map_take, List.map_drop]; done) | fail) ?_)); done) | fail) : EvL A p xs qs := h
theorem EvD.auto {p : Prop} {xs : List Operand} {qs : List PV} (h : EvD A p xs qs := by first | ((repeat (first | exact EvD.nil | refine EvD.cons (by refine Ev.of rfl ?_; first | exact fun _ => ⟨⟩ | exact id | exact And.right | exact And.left | exact (·.1.2) | exact (·.1.1) | exact (·.1.1.1) | exact (·.1.1.2) | exact fun _ => by assumption | exact fun _ => rfl) (by first | exact PSub.rfl' | exact PSub.nil' | (refine PSub.of_eq ?_; simp only [List.map_append, List.map_cons, List.map_nil, List.nil_append] <;> rfl) | (refine PSub.of_eq ?_; show PV.one (Cell.sl _) = PV.one (Cell.sl _); simp only [List.map_take, List.map_drop]; done) | fail) ?_)); done) | fail) : EvD A p xs qs := h
theorem EvA.auto {p : Prop} {caps : List Cell} {xs : List Operand} {as1 : List PV} (h : EvA A p caps xs as1 := by first | ((repeat (first | exact EvA.nil rfl | refine EvA.cons (by refine Ev.of rfl ?_; first | exact fun _ => ⟨⟩ | exact id | exact And.right | exact And.left | exact (·.1.2) | exact (·.1.1) | exact (·.1.1.1) | exact (·.1.1.2) | exact fun _ => by assumption | exact fun _ => rfl) (by first | exact PSub.rfl' | exact PSub.nil' | (refine PSub.of_eq ?_; simp only [List.map_append, List.map_cons, List.map_nil, List.nil_append] <;> rfl) | (refine PSub.of_eq ?_; show PV.one (Cell.sl _) = PV.one (Cell.sl _); simp only [List.map_take, List.map_drop]; done) | fail) ?_)); done) | fail) : EvA A p caps xs as1 := h
theorem ResL.auto {ts : List Nat} {qs : List PV} (h : ResL A ts qs := by first | ((repeat (first | exact ResL.nil | refine ResL.cons rfl rfl (by first | exact PSub.rfl' | exact PSub.nil' | (refine PSub.of_eq ?_; simp; done) | (refine PSub.of_eq ?_; simp only [List.map_append, List.map_cons, List.map_nil]; rfl) | (refine PSub.of_eq ?_; simp; rfl)) ?_)); done) | fail) : ResL A ts qs := h
theorem ResD.auto {ts : List Nat} {qs : List PV} (h : ResD A ts qs := by first | ((repeat (first | exact ResD.nil | refine ResD.cons rfl (by first | exact PSub.rfl' | exact PSub.nil' | (refine PSub.of_eq ?_; simp; done) | (refine PSub.of_eq ?_; simp only [List.map_append, List.map_cons, List.map_nil]; rfl) | (refine PSub.of_eq ?_; simp; rfl)) ?_)); done) | fail) : ResD A ts qs := h
theorem ResM.auto {rs : List RV} {qs : List PV} (h : ResM T A rs qs := by first | ((repeat (first | exact ResM.nil | refine ResM.cell rfl rfl rfl rfl (by first | exact PSub.rfl' | (refine PSub.of_eq ?_; simp; done) | (refine PSub.of_eq ?_; rfl)) ?_ | refine ResM.tmp rfl rfl (by first | exact PSub.rfl' | exact PSub.nil' | (refine PSub.of_eq ?_; simp; done) | (refine PSub.of_eq ?_; simp only [List.map_append, List.map_cons, List.map_nil]; rfl) | (refine PSub.of_eq ?_; simp; rfl)) ?_)); done) | fail) : ResM T A rs qs := h
theorem Le.auto {B : St} (h : Le A B := by
  refine Le.mkR rfl rfl ?_ ?_ ?_ rfl
  · repeat (first | exact SubR.nil | apply SubR.p rfl (by first | rfl | (simp; done) | (congr 3; omega) | (congr 3; simp; omega)) | apply SubR.s rfl rfl rfl | apply SubR.a rfl rfl rfl | apply SubR.t rfl rfl | apply SubR.k rfl rfl rfl | apply SubR.m rfl rfl rfl | apply SubR.i rfl rfl rfl rfl rfl)
  · repeat (first | exact SubR.nil | apply SubR.p rfl (by first | rfl | (simp; done) | (congr 3; omega) | (congr 3; simp; omega)) | apply SubR.s rfl rfl rfl | apply SubR.a rfl rfl rfl | apply SubR.t rfl rfl | apply SubR.k rfl rfl rfl | apply SubR.m rfl rfl rfl | apply SubR.i rfl rfl rfl rfl rfl)
  · repeat (first | exact SubBR.nil | apply SubBR.cons rfl (by first | rfl | (simp only [List.map_append, List.map_replicate, List.map_cons, List.map_nil]; rfl) | (simp only [List.map_append, List.map_cons, List.map_nil, List.append_assoc, List.cons_append, List.nil_append]; rfl) | (simp; done) | (simp; assumption)))) : Le A B := h
theorem W.condA {c : Operand} {x y : Code} {b : Bool} {Q : Exit → St → Prop} (hc : Ev A True c (.pv (.one (.bool b))) := by refine Ev.of rfl ?_; first | exact fun _ => ⟨⟩ | exact id | exact And.right | exact And.left | exact (·.1.2) | exact (·.1.1) | exact (·.1.1.1) | exact (·.1.1.2) | exact fun _ => by assumption | exact fun _ => rfl) (ht : b = true → W P G x Q A) (hf : b = false → W P G y Q A) : W P G (.cond c x y) Q A := W.cond hc ht hf
theorem W.initA {Q : Exit → St → Prop} {c : Code} {n : Nat} {args : List PV} {env : List (Nat × (Prop × AV))} (h : InitE args 0 env := by first | ((repeat (first | exact InitE.nil | apply InitE.c0 | apply InitE.c1 | apply InitE.c2 | apply InitE.c3 | apply InitE.c4 | apply InitE.c5 | apply InitE.c6 | apply InitE.c7 | apply InitE.c8 | apply InitE.c9 | apply InitE.c10 | apply InitE.c11)); done) | fail) (hw : W P G c Q (St.mk n env [])) : W P G c Q (St.init n args) := W.init h hw
end
end Lf
end
section
set_option linter.unusedVariables false
namespace Lf
open Go
section
variable {P : Program} {G : Ghost} {A : St} {T : TT}
theorem QX.B {o : Oper} {p : Prop} {v : AV} (hT : TOK P T) (h : TOK P T → PureOp P G A o p v := by
  intro hT
  first | exact QX.Move hT | exact QX.Asg hT | exact QX.Ld hT | exact QX.Fld hT | exact QX.Bin hT | exact QX.Pick hT | exact QX.Un hT) : PureOp P G A o p v := h hT
theorem SC {X Y : Prop} (hx : X) (h : X → Y := by first | exact RG.nil | exact Lex.nil | exact Then.n | exact Then.r | exact Then.x | exact InBlock.n | exact InBlock.r | exact InBlock.hit | exact InBlock.miss rfl | exact W.seq | exact W.region | exact W.block | exact W.skip | exact W.ret | exact W.exit) : Y := h hx
section
variable {n0 : Nat} {env : List (Nat × (Prop × AV))} {bl : List (Nat × Blk)} {p : Prop} {dst : Option Nat} {ty : TypeId} {pos : String} {after : Array Edge} {gd : Option (Nat × Bool)} {f : FuncId} {xs : List Operand} {ats : Array TypeId} {ps : List PV} {r : AV}
theorem QCd (hc : ACalls P f ps r) (hx : EvD (St.mk n0 env bl) p xs ps := by exact EvD.auto) : PureOp P G (St.mk n0 env bl) ⟨dst, .call ⟨.value (.func f), xs.toArray, ats⟩, ty, pos, after, gd⟩ p r := Q_calld hc hx
theorem QCl (hc : ACalls P f ps r) (hx : EvL (St.mk n0 env bl) p xs ps := by exact EvL.auto) (hr : r.flat = true := by exact rfl) : PureOp P G (St.mk n0 env bl) ⟨dst, .call ⟨.value (.func f), xs.toArray, ats⟩, ty, pos, after, gd⟩ p r := Q_call hc hx hr
end
end
end Lf
end
section
set_option linter.unusedVariables false
set_option linter.unusedSimpArgs false
set_option maxHeartbeats 8000000
set_option linter.unusedSectionVars false
namespace Go.Proofs.YtjedkgogjehigaaGreat
open Lf Go
attribute [local irreducible] PureOp EffOp Ev RG W Then InBlock Lf.Fin nth App InitE Pick SubE EvL EvD EvP EvR ResL Lf.Lex SubR SubBR RA RAll EvC FinO FinM ResM ResD FinS val pw digs trimL
theorem trim_step {l : List Int} {n : Nat} (h : n < l.length) (h0 : nth l n = 0) : trimL (l.take (n + 1)) = trimL (l.take n) := by
  rw [take_nth h, h0, trimL_zero]
theorem trim_stop {l : List Int} {n : Nat} (h : n < l.length) (h0 : ¬ nth l n = 0) : trimL (l.take (n + 1)) = l.take (n + 1) := by
  rw [take_nth h, trimL_keep h0]
theorem trim_step' {l : List Int} {n : Nat} (h : n ≤ l.length) (hn : 0 < n) (h0 : nth l (n - 1) = 0) : trimL (l.take n) = trimL (l.take (n - 1)) := by
  obtain ⟨m, rfl⟩ : ∃ m, n = m + 1 := ⟨n - 1, by omega⟩
  exact trim_step (by omega) h0
theorem trim_stop' {l : List Int} {n : Nat} (h : n ≤ l.length) (h0 : 0 < n → ¬ nth l (n - 1) = 0) : trimL (l.take n) = l.take n := by
  cases n with
  | zero => simp [trimL]
  | succ m => exact trim_stop (by omega) (h0 (by omega))
theorem trim_ok (l : List Int) (hl : l.length ≤ 9223372036854775807) : ACalls Tryz.prog 126 [slI l] (.pv (slI (trimL l))) := by
  refine ACalls.of_W (qs := [slI (trimL l)]) [2] 21 Tryz.func126 (by kernel_rfl) rfl rfl rfl fun G => ?_
  refine W.initA (hw := ?_)
  repeat' (first | ((first | apply U_ | (apply Ug_; exact rfl; exact rfl) | (apply Ugq_; exact rfl; exact rfl)); (first | exact QX.B TYok | exact QX.Len TYok | exact QX.Idx TYok | exact QX.Cut TYok); exact rfl) | refine SC ?_ | (apply S_isnil TYok; exact rfl; exact rfl; exact rfl; exact Ev.auto; intro bn hnil) | refine SG ?_ | (refine W.condA (ht := fun hb => ?_) (hf := fun hb => ?_) <;> (try simp at hb) <;> (try (exfalso; omega))))
  apply W.loopP (σ := Nat) 21 [0] (fun n => n ≤ l.length ∧ trimL l = trimL (l.take n)) (fun n => [(3, vI n)]) (fun _ => []) (fun n => n) (l.length)
  case hp => repeat (first | exact Pick.nil | apply Pick.cons rfl)
  case h0 =>
    refine ⟨by simp, ?_⟩
    exact Le.auto
  case round =>
    rintro n ⟨h1, h2⟩
    apply W.norm (by repeat (first | exact App.nil | apply App.cons))
    repeat' (first | ((first | apply U_ | (apply Ug_; exact rfl; exact rfl) | (apply Ugq_; exact rfl; exact rfl)); (first | exact QX.B TYok | exact QX.Len TYok | exact QX.Idx TYok | exact QX.Cut TYok); exact rfl) | refine SC ?_ | (apply S_isnil TYok; exact rfl; exact rfl; exact rfl; exact Ev.auto; intro bn hnil) | refine SG ?_ | (refine W.condA (ht := fun hb => ?_) (hf := fun hb => ?_) <;> (try simp at hb) <;> (try (exfalso; omega))))
    · refine ⟨n - 1, ⟨by omega, by rw [h2, trim_step' h1 hb.1 hb.2]⟩, ?_, by omega⟩
      exact Le.auto
    · rw [h2, trim_stop' h1 hb]
      exact Fin.ret ResL.auto
theorem trim_lent (l : List Int) (hl : l.length ≤ 9223372036854775807) : SCalls Tryz.prog 126 3 1 (l.map Lf.encI) 0 l.length [] (fun b cap => .pv (.one (.sla b (trimL l).length cap))) (l.map Lf.encI) := by
  refine SCalls.of_W (qs := (fun b cap => [.one (.sla b (trimL l).length cap)])) [2] 21 Tryz.func126 (by kernel_rfl) rfl rfl rfl rfl fun G b cap => ?_
  simp only [St.initS, initEnv, Nat.reduceAdd]
  repeat' (first | ((first | apply U_ | (apply Ug_; exact rfl; exact rfl) | (apply Ugq_; exact rfl; exact rfl)); (first | exact QX.B TYok | exact QX.Len TYok | exact QX.Idx TYok | exact QX.Cut TYok | (apply Q_lenP TYok; exact Ev.auto; exact rfl; exact rfl) | (apply Q_indexP TYok; exact Ev.auto; exact Ev.auto; exact rfl; exact rfl; exact rfl; exact rfl; exact rfl; exact rfl; (intro hg; first | omega | (simp; omega) | (simp at hg; simp; omega))) | (apply Q_cutP TYok; exact Ev.auto; exact Ev.auto; exact rfl; exact rfl; exact rfl; exact rfl; (focus (simp; done)); (intro hg; first | omega | (simp; omega) | (simp at hg; simp; omega)))); exact rfl) | refine SC ?_ | (apply S_isnil TYok; exact rfl; exact rfl; exact rfl; exact Ev.auto; intro bn hnil) | refine SG ?_ | (refine W.condA (ht := fun hb => ?_) (hf := fun hb => ?_) <;> (try simp at hb) <;> (try (exfalso; omega))))
  apply W.loopP (σ := Nat) 21 [0] (fun n => n ≤ l.length ∧ trimL l = trimL (l.take n)) (fun n => [(3, vI n)]) (fun _ => [(0, ⟨3, 1, l.map Lf.encI⟩)]) (fun n => n) (l.length)
  case hp => repeat (first | exact Pick.nil | apply Pick.cons rfl)
  case h0 =>
    refine ⟨by simp, ?_⟩
    exact Le.auto
  case round =>
    rintro n ⟨h1, h2⟩
    apply W.norm (by repeat (first | exact App.nil | apply App.cons))
    repeat' (first | ((first | apply U_ | (apply Ug_; exact rfl; exact rfl) | (apply Ugq_; exact rfl; exact rfl)); (first | exact QX.B TYok | exact QX.Len TYok | exact QX.Idx TYok | exact QX.Cut TYok | (apply Q_lenP TYok; exact Ev.auto; exact rfl; exact rfl) | (apply Q_indexP TYok; exact Ev.auto; exact Ev.auto; exact rfl; exact rfl; exact rfl; exact rfl; exact rfl; exact rfl; (intro hg; first | omega | (simp; omega) | (simp at hg; simp; omega))) | (apply Q_cutP TYok; exact Ev.auto; exact Ev.auto; exact rfl; exact rfl; exact rfl; exact rfl; (focus (simp; done)); (intro hg; first | omega | (simp; omega) | (simp at hg; simp; omega)))); exact rfl) | refine SC ?_ | (apply S_isnil TYok; exact rfl; exact rfl; exact rfl; exact Ev.auto; intro bn hnil) | refine SG ?_ | (refine W.condA (ht := fun hb => ?_) (hf := fun hb => ?_) <;> (try simp at hb) <;> (try (exfalso; omega))))
    · refine ⟨n - 1, ⟨by omega, by rw [h2, trim_step' h1 hb.1 hb.2]⟩, ?_, by omega⟩
      exact Le.auto
    · have e : n = (trimL l).length := by rw [h2, trim_stop' h1 hb]; simp; omega
      rw [← e]
      exact FinS.ret 0 rfl rfl rfl ResD.auto
def cmpI (x y : Int) : Int := if x < y then -1 else if y < x then 1 else 0
theorem isnan_ok (x : Int) : ACalls Tryz.prog 146 [cI x] (.pv (cB false)) := by
  refine ACalls.of_W (qs := [cB false]) [2] 6 Tryz.func146 (by kernel_rfl) rfl rfl rfl fun G => ?_
  refine W.initA (hw := ?_)
  repeat' (first | ((first | apply U_); (first | exact QX.B TYok); exact rfl) | refine SC ?_ | (refine W.condA (ht := fun hb => ?_) (hf := fun hb => ?_) <;> (try simp at hb) <;> (try (exfalso; omega))))
  rw [show (false : Bool) = !decide (x = x) by simp]
  exact Fin.ret ResL.auto
theorem cmp_ok (x y : Int) : ACalls Tryz.prog 131 [cI x, cI y] (.pv (cI (cmpI x y))) := by
  have h1 := isnan_ok x
  have h2 := isnan_ok y
  refine ACalls.of_W (qs := [cI (cmpI x y)]) [4] 20 Tryz.func131 (by kernel_rfl) rfl rfl rfl fun G => ?_
  refine W.initA (hw := ?_)
  repeat' (first | ((first | apply U_); (first | exact QX.B TYok | exact QCl (h1) | exact QCl (h2)); exact rfl) | refine SC ?_ | (refine W.condA (ht := fun hb => ?_) (hf := fun hb => ?_) <;> (try simp at hb) <;> (try (exfalso; omega))))
  · rw [cmpI, if_pos (by omega)]
    exact Fin.ret ResL.auto
  · rw [cmpI, if_neg (by omega), if_pos (by omega)]
    exact Fin.ret ResL.auto
  · rw [cmpI, if_neg (by omega), if_neg (by omega)]
    exact Fin.ret ResL.auto
theorem cmp_len {a b : List Int} (ha : Norm a) (hb : Norm b) (h : ¬ a.length = b.length) : cmpI a.length b.length = cmpI (val a) (val b) := by
  unfold cmpI
  by_cases h1 : a.length < b.length
  · have := val_ltLen ha.dig hb h1
    rw [if_pos (by omega), if_pos this]
  · have := val_ltLen hb.dig ha (by omega)
    rw [if_neg (by omega), if_pos (by omega), if_neg (by omega), if_pos this]
theorem compare_ok (a b : List Int) (na : Norm a) (nb : Norm b) (hl : a.length ≤ 1000000) (hl' : b.length ≤ 1000000) : ACalls Tryz.prog 124 [slI a, slI b] (.pv (cI (cmpI (val a) (val b)))) := by
  have h1 := cmp_ok a.length b.length
  have h2 := fun i : Nat => cmp_ok (nth a i) (nth b i)
  refine ACalls.of_W (qs := [cI (cmpI (val a) (val b))]) [4] 41 Tryz.func124 (by kernel_rfl) rfl rfl rfl fun G => ?_
  refine W.initA (hw := ?_)
  repeat' (first | ((first | apply U_ | apply Lex.u | (apply Lex.g; exact rfl; exact rfl) | (apply Lex.gq; exact rfl; exact rfl)); (first | exact QX.B TYok | exact QX.Len TYok | exact QX.Idx TYok | exact QCl (h1)); exact rfl) | refine SC ?_ | (apply W.draw2 (id := 6) [0, 0, 3, 7, 0, 0, 48, 112, 255] [[0], [5], [23, 24], [25], [1], [5], [27, 28], [29], [26, 30]] 9 [(23, 1), (24, 32), (25, 25165824), (26, 33554432), (27, 2), (28, 32), (29, 402653184), (30, 536870912), (31, 1140850688)] mixed (by kernel_rfl) rfl rfl) | (apply W.draw2 (id := 7) [0, 0, 3, 7, 0, 0, 48, 112, 255, 511] [[0], [5], [32, 33], [34], [1], [5], [36, 37], [38], [35, 39], [40]] 10 [(32, 1), (33, 32), (34, 12884901888), (35, 17179869184), (36, 2), (37, 32), (38, 206158430208), (39, 274877906944), (40, 584115552256), (4, 1099511627776)] mixed (by kernel_rfl) rfl rfl) | (refine W.condA (ht := fun hb => ?_) (hf := fun hb => ?_) <;> (try simp at hb) <;> (try (exfalso; omega))))
  · rw [← cmp_len na nb (by omega)]
    exact Fin.ret ResL.auto
  have hab : a.length = b.length := by omega
  apply W.loopP (σ := Nat) 41 [0, 1] (fun n => n ≤ a.length ∧ a.drop n = b.drop n) (fun n => [(5, vI ((n : Int) - 1))]) (fun _ => []) (fun n => n) (a.length)
  case hp => repeat (first | exact Pick.nil | apply Pick.cons rfl)
  case h0 =>
    refine ⟨by rw [List.drop_length, hab, List.drop_length]; simp, ?_⟩
    exact Le.auto
  case round =>
    rintro n ⟨g1, g2⟩
    apply W.norm (by repeat (first | exact App.nil | apply App.cons))
    have hi : ((n : Int) - 1).toNat = n - 1 := by omega
    repeat' (first | ((first | apply U_ | apply Lex.u | (apply Lex.g; exact rfl; exact rfl) | (apply Lex.gq; exact rfl; exact rfl)); (first | exact QX.B TYok | exact QX.Len TYok | exact QX.Idx TYok | exact QCl (h2 _)); exact rfl) | refine SC ?_ | (apply W.draw2 (id := 6) [0, 0, 3, 7, 0, 0, 48, 112, 255] [[0], [5], [23, 24], [25], [1], [5], [27, 28], [29], [26, 30]] 9 [(23, 1), (24, 32), (25, 25165824), (26, 33554432), (27, 2), (28, 32), (29, 402653184), (30, 536870912), (31, 1140850688)] mixed (by kernel_rfl) rfl rfl) | (apply W.draw2 (id := 7) [0, 0, 3, 7, 0, 0, 48, 112, 255, 511] [[0], [5], [32, 33], [34], [1], [5], [36, 37], [38], [35, 39], [40]] 10 [(32, 1), (33, 32), (34, 12884901888), (35, 17179869184), (36, 2), (37, 32), (38, 206158430208), (39, 274877906944), (40, 584115552256), (4, 1099511627776)] mixed (by kernel_rfl) rfl rfl) | (refine W.condA (ht := fun hb => ?_) (hf := fun hb => ?_) <;> (try simp at hb) <;> (try (exfalso; omega))))
    · have e : cmpI (nth a (n - 1)) (nth b (n - 1)) = cmpI (val a) (val b) := by
        have hd : a.drop (n - 1 + 1) = b.drop (n - 1 + 1) := by rw [show n - 1 + 1 = n by omega]; exact g2
        unfold cmpI
        by_cases h : nth a (n - 1) < nth b (n - 1)
        · have := val_ltL na.dig nb.dig (by omega) (by omega) hd h
          rw [if_pos h, if_pos this]
        · have := val_ltL nb.dig na.dig (by omega) (by omega) hd.symm (by omega)
          rw [if_neg h, if_pos (by omega), if_neg (by omega), if_pos this]
      rw [← e, ← hi]
      exact Fin.ret ResL.auto
    · refine ⟨n - 1, ⟨by omega, drop_step (by omega) (by omega) hb (by rw [show n - 1 + 1 = n by omega]; exact g2)⟩, ?_, by omega⟩
      exact Le.auto
    · have e : a = b := by
        obtain rfl : n = 0 := by omega
        simpa using g2
      subst e
      rw [show cmpI (val a) (val a) = 0 by simp [cmpI]]
      exact Fin.ret ResL.auto
end Go.Proofs.YtjedkgogjehigaaGreat
end
section
set_option linter.unusedVariables false
set_option linter.unusedSimpArgs false
set_option maxHeartbeats 8000000
set_option linter.unusedSectionVars false
namespace Go.Proofs.YtjedkgogjehigaaGreat
open Lf Go
attribute [local irreducible] PureOp EffOp Ev RG W Then InBlock Lf.Fin nth App InitE Pick SubE EvL EvD EvP EvR ResL Lf.Lex SubR SubBR RA RAll EvC FinO FinM ResM ResD FinS val pw digs trimL
/-- one digit of a sum -/
theorem step_val {l : List Int} {i : Nat} (h : i < l.length) (d : Int) : val ((l.set i d).take (i + 1)) = val (l.take i) + pw i * d := by
  rw [val_take (by simpa using h), nth_set_self h, List.take_set_of_le (Nat.le_refl _)]
theorem drop_set_gt {l : List Int} {i : Nat} {d : Int} : (l.set i d).drop (i + 1) = l.drop (i + 1) := List.drop_set_of_lt (by omega)
structure AddI (a b out : List Int) (i : Nat) (c : Int) : Prop where
  len : out.length = a.length + 1
  dig : Dig out
  c0 : 0 ≤ c ∧ c ≤ 1
  eq : val (out.take i) + pw i * c = val (a.take i) + val (b.take i)
theorem AddI.step {a b out : List Int} {i : Nat} {c : Int} (h : AddI a b out i c) (hi : i < a.length) (ha : Dig a) (hb : Dig b) {n : Int} (hn : n = c + nth a i + if i < b.length then nth b i else 0) :
    AddI a b (out.set i (n % 1048576)) (i + 1) (n / 1048576) where
  len := by simp [h.len]
  dig := h.dig.set (by omega)
  c0 := by
    have h1 := ha.nth hi
    have h2 := h.c0
    by_cases hb' : i < b.length
    · have := hb.nth hb'; rw [if_pos hb'] at hn; omega
    · rw [if_neg hb'] at hn; omega
  eq := by
    have h1 := h.len
    have h2 := h.eq
    rw [step_val (by omega), val_take hi, pw]
    have e : val (b.take (i + 1)) = val (b.take i) + pw i * (if i < b.length then nth b i else 0) := by
      by_cases hb' : i < b.length
      · rw [val_take hb', if_pos hb']
      · rw [if_neg hb', List.take_of_length_le (by omega), List.take_of_length_le (by omega)]; simp
    rw [e]
    generalize (if i < b.length then nth b i else 0) = y at hn ⊢
    have h3 := Int.emod_add_mul_ediv n 1048576
    generalize n % 1048576 = r at h3 ⊢
    generalize n / 1048576 = q at h3 ⊢
    grind
theorem AddI.done {a b out : List Int} {c : Int} (h : AddI a b out a.length c) (hl : b.length ≤ a.length) : trimL (out.set a.length c) = digs (val a + val b) := by
  have h1 := h.len
  refine trim_eq (h.dig.set (by have := h.c0; omega)) ?_
  have e := step_val (l := out) (i := a.length) (by omega) c
  rw [List.take_of_length_le (by simp; omega)] at e
  rw [e, h.eq, List.take_length, List.take_of_length_le hl]
theorem add_ge (a b : List Int) (da : Dig a) (db : Dig b) (hl : a.length ≤ 1000000) (hl' : b.length ≤ 1000000) (hab : b.length ≤ a.length) : ACalls Tryz.prog 129 [slI a, slI b] (.pv (slI (digs (val a + val b)))) := by
  have key : ∀ out : List Int, out.length = a.length + 1 → ACalls Tryz.prog 126 [slI out] (.pv (slI (trimL out))) := fun out ho => trim_ok out (by omega)
  refine ACalls.of_W (qs := [slI (digs (val a + val b))]) [4] 55 Tryz.func129 (by kernel_rfl) rfl rfl rfl fun G => ?_
  refine W.initA (hw := ?_)
  repeat' (first | ((first | apply U_); (first | exact QX.B TYok | exact QX.Len TYok | exact QX.Idx TYok); exact rfl) | refine SX.Store TYok (h := ?_) | refine SX.Make TYok (h := ?_) | refine SC ?_ | (refine W.condA (ht := fun hb => ?_) (hf := fun hb => ?_) <;> (try simp at hb) <;> (try (exfalso; omega))))
  apply W.loopP (σ := Nat × Int × List Int) 55 [0, 1, 20, 21] (fun (i, c, out) => i ≤ a.length ∧ AddI a b out i c) (fun (i, c, out) => [(6, vI c), (22, vI i), (5, (True, .slc 19))]) (fun (i, c, out) => [(19, ⟨3, 1, out.map Lf.encI⟩)]) (fun (i, c, out) => a.length - i) ((0, 0, List.replicate (a.length + 1) 0))
  case hp => repeat (first | exact Pick.nil | apply Pick.cons rfl)
  case h0 =>
    refine ⟨⟨by simp, by simp, Dig.rep _, by omega, by simp [val]⟩, ?_⟩
    exact Le.auto
  case round =>
    rintro ⟨i, c, out⟩ ⟨g1, g2⟩
    have g3 := g2.len
    have g4 := g2.c0
    have g5 := fun h : i < a.length => da.nth h
    have g6 := fun h : i < b.length => db.nth h
    apply W.norm (by repeat (first | exact App.nil | apply App.cons))
    dsimp only
    by_cases hi : i < a.length
    · have g5 := g5 hi
      by_cases hj : i < b.length
      · have g6 := g6 hj
        repeat' (first | ((first | apply U_); (first | (apply Q_or20; exact Ev.auto; exact Ev.auto; (intro hg; first | omega | (simp; omega) | (simp at hg; simp; omega))) | (apply Q_shl20; exact Ev.auto; (intro hg; first | omega | (simp; omega) | (simp at hg; simp; omega))) | (apply Q_shr20; exact Ev.auto) | (apply Q_and1; exact Ev.auto) | (apply Q_mask20; exact Ev.auto) | exact QX.B TYok | exact QX.Len TYok | exact QX.Idx TYok); exact rfl) | refine SX.Store TYok (h := ?_) | refine SX.Make TYok (h := ?_) | refine SC ?_ | (refine W.condA (ht := fun hb => ?_) (hf := fun hb => ?_) <;> (try simp at hb) <;> (try (exfalso; omega))))
        refine ⟨(i + 1, (c + nth a i + nth b i) / 1048576, out.set i ((c + nth a i + nth b i) % 1048576)), ⟨by omega, g2.step hi da db (by rw [if_pos hj])⟩, ?_, by (try simp only); omega⟩
        exact Le.auto
      · repeat' (first | ((first | apply U_); (first | (apply Q_or20; exact Ev.auto; exact Ev.auto; (intro hg; first | omega | (simp; omega) | (simp at hg; simp; omega))) | (apply Q_shl20; exact Ev.auto; (intro hg; first | omega | (simp; omega) | (simp at hg; simp; omega))) | (apply Q_shr20; exact Ev.auto) | (apply Q_and1; exact Ev.auto) | (apply Q_mask20; exact Ev.auto) | exact QX.B TYok | exact QX.Len TYok | exact QX.Idx TYok); exact rfl) | refine SX.Store TYok (h := ?_) | refine SX.Make TYok (h := ?_) | refine SC ?_ | (refine W.condA (ht := fun hb => ?_) (hf := fun hb => ?_) <;> (try simp at hb) <;> (try (exfalso; omega))))
        refine ⟨(i + 1, (c + nth a i) / 1048576, out.set i ((c + nth a i) % 1048576)), ⟨by omega, g2.step hi da db (by rw [if_neg hj, Int.add_zero])⟩, ?_, by (try simp only); omega⟩
        exact Le.auto
    · obtain rfl : i = a.length := by omega
      repeat' (first | (refine W.weaken (Le.freeze1 (m := 19) rfl) ?_; apply W.region (id := 15)) | ((first | apply U_); (first | exact QX.B TYok | exact QX.Len TYok | exact QX.Idx TYok | exact QCd (key (out.set a.length c) (by simp; omega))); exact rfl) | refine SX.Store TYok (h := ?_) | refine SX.Make TYok (h := ?_) | refine SC ?_ | (refine W.condA (ht := fun hb => ?_) (hf := fun hb => ?_) <;> (try simp at hb) <;> (try (exfalso; omega))))
      rw [← g2.done (by omega)]
      exact Fin.ret ResL.auto
theorem add_lt (a b : List Int) (da : Dig a) (db : Dig b) (hl : a.length ≤ 1000000) (hl' : b.length ≤ 1000000) (hab : a.length < b.length) : ACalls Tryz.prog 129 [slI a, slI b] (.pv (slI (digs (val a + val b)))) := by
  have key : ∀ out : List Int, out.length = b.length + 1 → ACalls Tryz.prog 126 [slI out] (.pv (slI (trimL out))) := fun out ho => trim_ok out (by omega)
  refine ACalls.of_W (qs := [slI (digs (val a + val b))]) [4] 55 Tryz.func129 (by kernel_rfl) rfl rfl rfl fun G => ?_
  refine W.initA (hw := ?_)
  repeat' (first | ((first | apply U_); (first | exact QX.B TYok | exact QX.Len TYok | exact QX.Idx TYok); exact rfl) | refine SX.Store TYok (h := ?_) | refine SX.Make TYok (h := ?_) | refine SC ?_ | (refine W.condA (ht := fun hb => ?_) (hf := fun hb => ?_) <;> (try simp at hb) <;> (try (exfalso; omega))))
  apply W.loopP (σ := Nat × Int × List Int) 55 [0, 1, 20, 21] (fun (i, c, out) => i ≤ b.length ∧ AddI b a out i c) (fun (i, c, out) => [(6, vI c), (22, vI i), (5, (True, .slc 19))]) (fun (i, c, out) => [(19, ⟨3, 1, out.map Lf.encI⟩)]) (fun (i, c, out) => b.length - i) ((0, 0, List.replicate (b.length + 1) 0))
  case hp => repeat (first | exact Pick.nil | apply Pick.cons rfl)
  case h0 =>
    refine ⟨⟨by simp, by simp, Dig.rep _, by omega, by simp [val]⟩, ?_⟩
    exact Le.auto
  case round =>
    rintro ⟨i, c, out⟩ ⟨g1, g2⟩
    have g3 := g2.len
    have g4 := g2.c0
    have g5 := fun h : i < b.length => db.nth h
    have g6 := fun h : i < a.length => da.nth h
    apply W.norm (by repeat (first | exact App.nil | apply App.cons))
    dsimp only
    by_cases hi : i < b.length
    · have g5 := g5 hi
      by_cases hj : i < a.length
      · have g6 := g6 hj
        repeat' (first | ((first | apply U_); (first | (apply Q_or20; exact Ev.auto; exact Ev.auto; (intro hg; first | omega | (simp; omega) | (simp at hg; simp; omega))) | (apply Q_shl20; exact Ev.auto; (intro hg; first | omega | (simp; omega) | (simp at hg; simp; omega))) | (apply Q_shr20; exact Ev.auto) | (apply Q_and1; exact Ev.auto) | (apply Q_mask20; exact Ev.auto) | exact QX.B TYok | exact QX.Len TYok | exact QX.Idx TYok); exact rfl) | refine SX.Store TYok (h := ?_) | refine SX.Make TYok (h := ?_) | refine SC ?_ | (refine W.condA (ht := fun hb => ?_) (hf := fun hb => ?_) <;> (try simp at hb) <;> (try (exfalso; omega))))
        refine ⟨(i + 1, (c + nth b i + nth a i) / 1048576, out.set i ((c + nth b i + nth a i) % 1048576)), ⟨by omega, g2.step hi db da (by rw [if_pos hj])⟩, ?_, by (try simp only); omega⟩
        exact Le.auto
      · repeat' (first | ((first | apply U_); (first | (apply Q_or20; exact Ev.auto; exact Ev.auto; (intro hg; first | omega | (simp; omega) | (simp at hg; simp; omega))) | (apply Q_shl20; exact Ev.auto; (intro hg; first | omega | (simp; omega) | (simp at hg; simp; omega))) | (apply Q_shr20; exact Ev.auto) | (apply Q_and1; exact Ev.auto) | (apply Q_mask20; exact Ev.auto) | exact QX.B TYok | exact QX.Len TYok | exact QX.Idx TYok); exact rfl) | refine SX.Store TYok (h := ?_) | refine SX.Make TYok (h := ?_) | refine SC ?_ | (refine W.condA (ht := fun hb => ?_) (hf := fun hb => ?_) <;> (try simp at hb) <;> (try (exfalso; omega))))
        refine ⟨(i + 1, (c + nth b i) / 1048576, out.set i ((c + nth b i) % 1048576)), ⟨by omega, g2.step hi db da (by rw [if_neg hj, Int.add_zero])⟩, ?_, by (try simp only); omega⟩
        exact Le.auto
    · obtain rfl : i = b.length := by omega
      repeat' (first | (refine W.weaken (Le.freeze1 (m := 19) rfl) ?_; apply W.region (id := 15)) | ((first | apply U_); (first | exact QX.B TYok | exact QX.Len TYok | exact QX.Idx TYok | exact QCd (key (out.set b.length c) (by simp; omega))); exact rfl) | refine SX.Store TYok (h := ?_) | refine SX.Make TYok (h := ?_) | refine SC ?_ | (refine W.condA (ht := fun hb => ?_) (hf := fun hb => ?_) <;> (try simp at hb) <;> (try (exfalso; omega))))
      rw [Int.add_comm, ← g2.done (by omega)]
      exact Fin.ret ResL.auto
theorem add_ok (a b : List Int) (da : Dig a) (db : Dig b) (hl : a.length ≤ 1000000) (hl' : b.length ≤ 1000000) : ACalls Tryz.prog 129 [slI a, slI b] (.pv (slI (digs (val a + val b)))) := by
  by_cases h : b.length ≤ a.length
  · exact add_ge a b da db hl hl' h
  · exact add_lt a b da db hl hl' (by omega)
theorem clone_ok (a : List Int) (hl : a.length ≤ 1000000) : OCalls Tryz.prog 25 [slI a] 3 1 (a.map Lf.encI) := by
  refine OCalls.of_W 2 8 Tryz.func25 (by kernel_rfl) rfl rfl rfl rfl fun G => ?_
  refine W.initA (hw := ?_)
  repeat' (first | ((first | apply U_); (first | exact QX.B TYok); exact rfl) | refine SX.Lit TYok (h := ?_) | refine SX.App TYok (h := ?_) | refine SC ?_ | (apply S_isnil TYok; exact rfl; exact rfl; exact rfl; exact Ev.auto; intro bn hnil) | (refine W.condA (ht := fun hb => ?_) (hf := fun hb => ?_) <;> (try simp at hb) <;> (try (exfalso; omega))))
  · rw [hnil hb]
    exact FinO.nil rfl rfl
  · exact FinO.ret rfl rfl (by simp)
structure SubI (a b out : List Int) (i : Nat) (c : Int) : Prop where
  len : out.length = a.length
  dig : Dig out
  c0 : 0 ≤ c ∧ c ≤ 1
  rest : out.drop i = a.drop i
  eq : val (out.take i) - pw i * c = val (a.take i) - val (b.take i)
theorem SubI.nth {a b out : List Int} {i : Nat} {c : Int} (h : SubI a b out i c) (hi : i < a.length) : nth out i = nth a i := by
  have h1 := h.rest
  rw [drop_nth (by rw [h.len]; exact hi), drop_nth hi] at h1
  exact (List.cons.inj h1).1
theorem SubI.step {a b out : List Int} {i : Nat} {c : Int} (h : SubI a b out i c) (hi : i < a.length) (ha : Dig a) (hb : Dig b) {n : Int} (hn : n = Lf.nth out i - c - if i < b.length then Lf.nth b i else 0) :
    SubI a b (out.set i (n % 1048576)) (i + 1) (n / 1048576 % 2) := by
  have h1 := ha.nth hi
  have h2 := h.c0
  have h3 := h.nth hi
  have hy : 0 ≤ (if i < b.length then Lf.nth b i else 0) ∧ (if i < b.length then Lf.nth b i else 0) < 1048576 := by
    by_cases hb' : i < b.length
    · rw [if_pos hb']; exact hb.nth hb'
    · rw [if_neg hb']; omega
  have e : val (b.take (i + 1)) = val (b.take i) + pw i * (if i < b.length then Lf.nth b i else 0) := by
    by_cases hb' : i < b.length
    · rw [val_take hb', if_pos hb']
    · rw [if_neg hb', List.take_of_length_le (by omega), List.take_of_length_le (by omega)]; simp
  refine ⟨by simp [h.len], h.dig.set (by omega), by omega, ?_, ?_⟩
  · rw [drop_set_gt]
    have h4 := h.rest
    rw [drop_nth (by rw [h.len]; exact hi), drop_nth hi] at h4
    exact (List.cons.inj h4).2
  · have h5 := h.eq
    rw [step_val (by rw [h.len]; exact hi), val_take hi, pw, e]
    generalize (if i < b.length then Lf.nth b i else 0) = y at hn hy ⊢
    have h6 := Int.emod_add_mul_ediv n 1048576
    have h7 : n / 1048576 % 2 = - (n / 1048576) := by omega
    rw [h7]
    generalize n % 1048576 = r at h6 ⊢
    generalize n / 1048576 = q at h6 ⊢
    grind
theorem SubI.done {a b out : List Int} {c : Int} (h : SubI a b out a.length c) (hl : b.length ≤ a.length) (hv : val b ≤ val a) : trimL out = digs (val a - val b) := by
  have h1 := h.eq
  have h2 := val_hi h.dig
  rw [List.take_length, List.take_of_length_le hl, List.take_of_length_le (by rw [h.len]; omega)] at h1
  rw [h.len] at h2
  refine trim_eq h.dig ?_
  have h3 : c = 0 ∨ c = 1 := by have := h.c0; omega
  rcases h3 with rfl | rfl
  · omega
  · rw [Int.mul_one] at h1; omega
theorem sub_ok (a b : List Int) (da : Dig a) (db : Dig b) (hl : a.length ≤ 1000000) (hab : b.length ≤ a.length) (hv : val b ≤ val a) : ACalls Tryz.prog 130 [slI a, slI b] (.pv (slI (digs (val a - val b)))) := by
  have h1 := clone_ok a hl
  have key : ∀ out : List Int, out.length = a.length → ACalls Tryz.prog 126 [slI out] (.pv (slI (trimL out))) := fun out ho => trim_ok out (by omega)
  refine ACalls.of_W (qs := [slI (digs (val a - val b))]) [4] 43 Tryz.func130 (by kernel_rfl) rfl rfl rfl fun G => ?_
  refine W.initA (hw := ?_)
  repeat' (first | ((first | apply U_); (first | exact QX.B TYok | exact QX.Len TYok | exact QX.Idx TYok); exact rfl) | refine SX.Store TYok (h := ?_) | (apply S_callo (h1); exact rfl; exact rfl; exact rfl; exact EvD.auto) | refine SC ?_ | (refine W.condA (ht := fun hb => ?_) (hf := fun hb => ?_) <;> (try simp at hb) <;> (try (exfalso; omega))))
  apply W.loopP (σ := Nat × Int × List Int) 43 [1, 12] (fun (i, c, out) => i ≤ a.length ∧ SubI a b out i c) (fun (i, c, out) => [(6, vI c), (13, vI i), (5, (True, .slc 10))]) (fun (i, c, out) => [(10, ⟨3, 1, out.map Lf.encI⟩)]) (fun (i, c, out) => a.length - i) ((0, 0, a))
  case hp => repeat (first | exact Pick.nil | apply Pick.cons rfl)
  case h0 =>
    refine ⟨⟨by simp, rfl, da, by omega, rfl, by simp [val]⟩, ?_⟩
    exact Le.auto
  case round =>
    rintro ⟨i, c, out⟩ ⟨g1, g2⟩
    have g3 := g2.len
    have g4 := g2.c0
    apply W.norm (by repeat (first | exact App.nil | apply App.cons))
    dsimp only
    by_cases hi : i < a.length
    · have g5 := da.nth hi
      have g7 := g2.nth hi
      have g8 : nth out ((i : Int)).toNat = nth a i := g7
      by_cases hj : i < b.length
      · have g6 := db.nth hj
        repeat' (first | ((first | apply U_); (first | (apply Q_or20; exact Ev.auto; exact Ev.auto; (intro hg; first | omega | (simp; omega) | (simp at hg; simp; omega))) | (apply Q_shl20; exact Ev.auto; (intro hg; first | omega | (simp; omega) | (simp at hg; simp; omega))) | (apply Q_shr20; exact Ev.auto) | (apply Q_and1; exact Ev.auto) | (apply Q_mask20; exact Ev.auto) | exact QX.B TYok | exact QX.Len TYok | exact QX.Idx TYok); exact rfl) | refine SX.Store TYok (h := ?_) | refine SC ?_ | (refine W.condA (ht := fun hb => ?_) (hf := fun hb => ?_) <;> (try simp at hb) <;> (try (exfalso; omega))))
        refine ⟨(i + 1, (nth out i - c - nth b i) / 1048576 % 2, out.set i ((nth out i - c - nth b i) % 1048576)), ⟨by omega, g2.step hi da db (by rw [if_pos hj])⟩, ?_, by (try simp only); omega⟩
        exact Le.auto
      · repeat' (first | ((first | apply U_); (first | (apply Q_or20; exact Ev.auto; exact Ev.auto; (intro hg; first | omega | (simp; omega) | (simp at hg; simp; omega))) | (apply Q_shl20; exact Ev.auto; (intro hg; first | omega | (simp; omega) | (simp at hg; simp; omega))) | (apply Q_shr20; exact Ev.auto) | (apply Q_and1; exact Ev.auto) | (apply Q_mask20; exact Ev.auto) | exact QX.B TYok | exact QX.Len TYok | exact QX.Idx TYok); exact rfl) | refine SX.Store TYok (h := ?_) | refine SC ?_ | (refine W.condA (ht := fun hb => ?_) (hf := fun hb => ?_) <;> (try simp at hb) <;> (try (exfalso; omega))))
        refine ⟨(i + 1, (nth out i - c) / 1048576 % 2, out.set i ((nth out i - c) % 1048576)), ⟨by omega, g2.step hi da db (by rw [if_neg hj, Int.sub_zero])⟩, ?_, by (try simp only); omega⟩
        exact Le.auto
    · obtain rfl : i = a.length := by omega
      repeat' (first | (refine W.weaken (Le.freeze1 (m := 10) rfl) ?_; apply W.region (id := 12)) | ((first | apply U_); (first | exact QX.B TYok | exact QX.Len TYok | exact QX.Idx TYok | exact QCd (key out g3)); exact rfl) | refine SX.Store TYok (h := ?_) | refine SC ?_ | (refine W.condA (ht := fun hb => ?_) (hf := fun hb => ?_) <;> (try simp at hb) <;> (try (exfalso; omega))))
      rw [← g2.done hab hv]
      exact Fin.ret ResL.auto
end Go.Proofs.YtjedkgogjehigaaGreat
end
section
set_option linter.unusedVariables false
set_option linter.unusedSimpArgs false
set_option maxHeartbeats 8000000
set_option linter.unusedSectionVars false
namespace Go.Proofs.YtjedkgogjehigaaGreat
open Lf Go
attribute [local irreducible] PureOp EffOp Ev RG W Then InBlock Lf.Fin nth App InitE Pick SubE EvL EvD EvP EvR ResL Lf.Lex SubR SubBR RA RAll EvC FinO FinM ResM ResD FinS val pw digs trimL
structure MulI (a b out : List Int) (i : Nat) : Prop where
  len : out.length = a.length + b.length
  dig : Dig out
  eq : val out = val (a.take i) * val b
  high : ∀ j, i + b.length ≤ j → j < out.length → nth out j = 0
structure MulK (a b out : List Int) (i k : Nat) (c : Int) : Prop where
  len : out.length = a.length + b.length
  dig : Dig out
  c0 : 0 ≤ c ∧ c < 1048576
  eq : val out + pw (i + k) * c = val (a.take i) * val b + nth a i * (pw i * val (b.take k))
  high : ∀ j, i + b.length ≤ j → j < out.length → nth out j = 0
theorem mul_le {x y : Int} (hx : 0 ≤ x ∧ x < 1048576) (hy : 0 ≤ y ∧ y < 1048576) : 0 ≤ x * y ∧ x * y ≤ 1099509530625 := by
  have h1 := Int.mul_nonneg hx.1 hy.1
  have h2 : x * y ≤ x * 1048575 := Int.mul_le_mul_of_nonneg_left (by omega) hx.1
  omega
theorem MulK.step {a b out : List Int} {i k : Nat} {c : Int} (h : MulK a b out i k c) (hi : i < a.length) (hk : k < b.length) (ha : Dig a) (hb : Dig b) {n : Int} (hn : n = nth out (i + k) + nth a i * nth b k + c) :
    MulK a b (out.set (i + k) (n % 1048576)) i (k + 1) (n / 1048576) := by
  have h1 := h.len
  have h2 := h.dig.nth (show i + k < out.length by omega)
  have h3 := mul_le (ha.nth hi) (hb.nth hk)
  have h4 := h.c0
  have h5 := h.eq
  refine ⟨by simp [h1], h.dig.set (by omega), by omega, ?_, fun j hj hj2 => ?_⟩
  · rw [val_set (by omega), show i + (k + 1) = (i + k) + 1 by omega, pw, val_take hk]
    have h6 := Int.emod_add_mul_ediv n 1048576
    have h7 := pw_add k i
    generalize n % 1048576 = r at h6 ⊢
    generalize n / 1048576 = q at h6 ⊢
    generalize nth out (i + k) = o at hn ⊢
    generalize nth a i = x at *
    generalize nth b k = y at *
    generalize pw (i + k) = p at *
    generalize val (b.take k) = w at *
    generalize val (a.take i) * val b = u at *
    subst h7
    have e : n = o + x * y + c := hn
    have e2 : r = n - 1048576 * q := by omega
    subst e2
    subst e
    grind
  · rw [nth_set_ne (by omega)]
    exact h.high j hj (by simpa using hj2)
theorem MulK.done {a b out : List Int} {i : Nat} {c : Int} (h : MulK a b out i b.length c) (hi : i < a.length) :
    MulI a b (out.set (i + b.length) c) (i + 1) := by
  have h1 := h.len
  have h2 := h.high (i + b.length) (Nat.le_refl _) (by omega)
  have h5 := h.eq
  refine ⟨by simp [h1], h.dig.set h.c0, ?_, fun j hj hj2 => ?_⟩
  · rw [val_set (by omega), h2, val_take hi]
    rw [List.take_length] at h5
    generalize pw (i + b.length) = p at *
    generalize val (a.take i) = u at *
    grind
  · rw [nth_set_ne (by omega)]
    exact h.high j (by omega) (by simpa using hj2)
theorem mul_own (a b : List Int) (da : Dig a) (db : Dig b) (hl : a.length ≤ 1000000) (hl' : b.length ≤ 1000000) (hp : 0 < a.length + b.length) : OCalls Tryz.prog 127 [slI a, slI b] 3 1 ((digs (val a * val b)).map Lf.encI) := by
  have key : ∀ out : List Int, out.length = a.length + b.length → SCalls Tryz.prog 126 3 1 (out.map Lf.encI) 0 (out.map Lf.encI).length [] (fun b cap => .pv (.one (.sla b (trimL out).length cap))) (out.map Lf.encI) := fun out ho => by
    rw [List.length_map]; exact trim_lent out (by omega)
  refine OCalls.of_W 4 67 Tryz.func127 (by kernel_rfl) rfl rfl rfl rfl fun G => ?_
  refine W.initA (hw := ?_)
  repeat' (first | ((first | apply U_); (first | exact QX.B TYok | exact QX.Len TYok | exact QX.Idx TYok); exact rfl) | refine SX.Store TYok (h := ?_) | refine SX.Make TYok (h := ?_) | refine SC ?_ | (refine W.condA (ht := fun hb => ?_) (hf := fun hb => ?_) <;> (try simp at hb) <;> (try (exfalso; omega))))
  apply W.loopP (σ := Nat × List Int) 67 [1, 18, 19] (fun (i, out) => i ≤ a.length ∧ MulI a b out i) (fun (i, out) => [(20, vI i), (5, (True, .slc 17))]) (fun (i, out) => [(17, ⟨3, 1, out.map Lf.encI⟩)]) (fun (i, out) => a.length - i) ((0, List.replicate (a.length + b.length) 0))
  case hp => repeat (first | exact Pick.nil | apply Pick.cons rfl)
  case h0 =>
    refine ⟨⟨by simp, by simp, Dig.rep _, by simp [val, val_rep], fun j hj hj2 => ?_⟩, ?_⟩
    · simp at hj2; simp [nth, hj2]
    exact Le.auto
  case round =>
    rintro ⟨i, out⟩ ⟨g1, g2⟩
    have g3 := g2.len
    apply W.norm (by repeat (first | exact App.nil | apply App.cons))
    dsimp only
    by_cases hi : i < a.length
    · have g5 := da.nth hi
      repeat' (first | ((first | apply U_); (first | (apply Q_or20; exact Ev.auto; exact Ev.auto; (intro hg; first | omega | (simp; omega) | (simp at hg; simp; omega))) | (apply Q_shl20; exact Ev.auto; (intro hg; first | omega | (simp; omega) | (simp at hg; simp; omega))) | (apply Q_shr20; exact Ev.auto) | (apply Q_and1; exact Ev.auto) | (apply Q_mask20; exact Ev.auto) | exact QX.B TYok | exact QX.Len TYok | exact QX.Idx TYok); exact rfl) | refine SX.Store TYok (h := ?_) | refine SX.Make TYok (h := ?_) | refine SC ?_ | (refine W.condA (ht := fun hb => ?_) (hf := fun hb => ?_) <;> (try simp at hb) <;> (try (exfalso; omega))))
      apply W.loopP (σ := Nat × Int × List Int) 67 [1, 18, 19, 20, 25, 26, 6, 7] (fun (k, c, out) => k ≤ b.length ∧ MulK a b out i k c) (fun (k, c, out) => [(27, vI k), (8, vI c), (5, (True, .slc 17))]) (fun (k, c, out) => [(17, ⟨3, 1, out.map Lf.encI⟩)]) (fun (k, c, out) => b.length - k) ((0, 0, out))
      case hp => repeat (first | exact Pick.nil | apply Pick.cons rfl)
      case h0 =>
        refine ⟨⟨by simp, g2.len, g2.dig, by omega, by rw [g2.eq]; simp [val], g2.high⟩, ?_⟩
        exact Le.auto
      case round =>
        rintro ⟨k, c, out⟩ ⟨f1, f2⟩
        have f3 := f2.len
        have f4 := f2.c0
        apply W.norm (by repeat (first | exact App.nil | apply App.cons))
        dsimp only
        by_cases hk : k < b.length
        · have f5 := mul_le g5 (db.nth hk)
          have f6 := f2.dig.nth (show i + k < out.length by omega)
          have f7 : 0 ≤ nth out ((i : Int) + (k : Int)).toNat ∧ nth out ((i : Int) + (k : Int)).toNat < 1048576 := f6
          repeat' (first | ((first | apply U_); (first | (apply Q_or20; exact Ev.auto; exact Ev.auto; (intro hg; first | omega | (simp; omega) | (simp at hg; simp; omega))) | (apply Q_shl20; exact Ev.auto; (intro hg; first | omega | (simp; omega) | (simp at hg; simp; omega))) | (apply Q_shr20; exact Ev.auto) | (apply Q_and1; exact Ev.auto) | (apply Q_mask20; exact Ev.auto) | exact QX.B TYok | exact QX.Len TYok | exact QX.Idx TYok); exact rfl) | refine SX.Store TYok (h := ?_) | refine SX.Make TYok (h := ?_) | refine SC ?_ | (refine W.condA (ht := fun hb => ?_) (hf := fun hb => ?_) <;> (try simp at hb) <;> (try (exfalso; omega))))
          refine ⟨(k + 1, (nth out (i + k) + nth a i * nth b k + c) / 1048576, out.set (i + k) ((nth out (i + k) + nth a i * nth b k + c) % 1048576)), ⟨by omega, f2.step hi hk da db rfl⟩, ?_, by (try simp only); omega⟩
          exact Le.auto
        · obtain rfl : k = b.length := by omega
          have f7 : nth out ((i : Int) + (b.length : Int)).toNat = 0 := f2.high (i + b.length) (by omega) (by omega)
          repeat' (first | ((first | apply U_); (first | (apply Q_or20; exact Ev.auto; exact Ev.auto; (intro hg; first | omega | (simp; omega) | (simp at hg; simp; omega))) | (apply Q_shl20; exact Ev.auto; (intro hg; first | omega | (simp; omega) | (simp at hg; simp; omega))) | (apply Q_shr20; exact Ev.auto) | (apply Q_and1; exact Ev.auto) | (apply Q_mask20; exact Ev.auto) | exact QX.B TYok | exact QX.Len TYok | exact QX.Idx TYok); exact rfl) | refine SX.Store TYok (h := ?_) | refine SX.Make TYok (h := ?_) | refine SC ?_ | (refine W.condA (ht := fun hb => ?_) (hf := fun hb => ?_) <;> (try simp at hb) <;> (try (exfalso; omega))))
          refine ⟨(i + 1, out.set (i + b.length) c), ⟨by omega, f2.done hi⟩, ?_, by (try simp only); omega⟩
          simp only [f7, Int.zero_add]
          exact Le.auto
    · obtain rfl : i = a.length := by omega
      have e : trimL out = digs (val a * val b) := trim_eq g2.dig (by rw [g2.eq, List.take_length])
      have k1 : out.map Lf.encI ≠ [] := fun h => by
        have := congrArg List.length h
        simp at this; simp [this] at g3; omega
      have k2 : (trimL out).length ≤ (out.map Lf.encI).length := by simpa using trimL_len out
      repeat' (first | ((first | apply U_); (first | exact QX.B TYok | exact QX.Len TYok | exact QX.Idx TYok); exact rfl) | refine SX.Store TYok (h := ?_) | refine SX.Make TYok (h := ?_) | (apply S_callcut (key out g3); exact Ev.auto; exact rfl; exact k1; exact k2; exact rfl) | refine SC ?_ | (refine W.condA (ht := fun hb => ?_) (hf := fun hb => ?_) <;> (try simp at hb) <;> (try (exfalso; omega))))
      refine FinO.ret rfl rfl ?_
      rw [← e, ← List.map_take, ← trimL_take]
theorem mul_ok (a b : List Int) (da : Dig a) (db : Dig b) (hl : a.length ≤ 1000000) (hl' : b.length ≤ 1000000) : ACalls Tryz.prog 127 [slI a, slI b] (.pv (slI (digs (val a * val b)))) := by
  by_cases hp : 0 < a.length + b.length
  · exact (mul_own a b da db hl hl' hp).data rfl
  · have key : ACalls Tryz.prog 126 [slI (List.replicate (a.length + b.length) 0)] (.pv (slI (trimL (List.replicate (a.length + b.length) 0)))) := trim_ok _ (by simp; omega)
    refine ACalls.of_W (qs := [slI (digs (val a * val b))]) [4] 67 Tryz.func127 (by kernel_rfl) rfl rfl rfl fun G => ?_
    refine W.initA (hw := ?_)
    repeat' (first | ((first | apply U_); (first | exact QX.B TYok | exact QX.Len TYok | exact QX.Idx TYok); exact rfl) | refine SX.Store TYok (h := ?_) | refine SX.Make TYok (h := ?_) | refine SC ?_ | (refine W.condA (ht := fun hb => ?_) (hf := fun hb => ?_) <;> (try simp at hb) <;> (try (exfalso; omega))))
    apply W.loopP (σ := Unit) 67 [1, 18, 19] (fun _ => True) (fun _ => [(20, vI 0), (5, (True, .slc 17))]) (fun _ => [(17, ⟨3, 1, (List.replicate (a.length + b.length) (0 : Int)).map Lf.encI⟩)]) (fun _ => 0) (())
    case hp => repeat (first | exact Pick.nil | apply Pick.cons rfl)
    case h0 =>
      refine ⟨trivial, ?_⟩
      exact Le.auto
    case round =>
      rintro ⟨⟩ -
      apply W.norm (by repeat (first | exact App.nil | apply App.cons))
      repeat' (first | (refine W.weaken (Le.freeze1 (m := 17) rfl) ?_; apply W.region (id := 14)) | ((first | apply U_); (first | exact QX.B TYok | exact QX.Len TYok | exact QX.Idx TYok | exact QCd (key)); exact rfl) | refine SX.Store TYok (h := ?_) | refine SX.Make TYok (h := ?_) | refine SC ?_ | (refine W.condA (ht := fun hb => ?_) (hf := fun hb => ?_) <;> (try simp at hb) <;> (try (exfalso; omega))))
      rw [show digs (val a * val b) = trimL (List.replicate (a.length + b.length) 0) from (trim_eq (Dig.rep _) (by
        rw [val_rep, List.length_eq_zero_iff.1 (show a.length = 0 by omega)]; simp [val])).symm]
      exact Fin.ret ResL.auto
structure ShortI (a out : List Int) (d : Int) (i : Nat) (r : Int) : Prop where
  len : out.length = a.length
  dig : Dig out
  r0 : 0 ≤ r ∧ r < d
  eq : val (a.drop i) = d * val (out.drop i) + r
theorem ShortI.step {a out : List Int} {d : Int} {i : Nat} {r : Int} (h : ShortI a out d (i + 1) r) (hi : i < a.length) (ha : Dig a) (hd : 0 < d ∧ d ≤ 1048576) :
    ShortI a (out.set i ((r * 1048576 + nth a i) / d)) d i ((r * 1048576 + nth a i) % d) := by
  have h1 := h.len
  have h2 := ha.nth hi
  have h3 := h.r0
  have h4 := h.eq
  have hq0 : 0 ≤ (r * 1048576 + nth a i) / d := Int.ediv_nonneg (by omega) (by omega)
  have hq1 : (r * 1048576 + nth a i) / d < 1048576 := Int.ediv_lt_of_lt_mul hd.1 (by omega)
  refine ⟨by simp [h1], h.dig.set ⟨hq0, hq1⟩, ⟨Int.emod_nonneg _ (by omega), Int.emod_lt_of_pos _ hd.1⟩, ?_⟩
  rw [val_drop hi, val_drop (l := out.set i ((r * 1048576 + nth a i) / d)) (i := i) (by rw [List.length_set]; omega), nth_set_self (by omega), drop_set_gt]
  have h6 := Int.emod_add_mul_ediv (r * 1048576 + nth a i) d
  generalize (r * 1048576 + nth a i) % d = x at *
  generalize (r * 1048576 + nth a i) / d = y at *
  grind
theorem ShortI.done {a out : List Int} {d r : Int} (h : ShortI a out d 0 r) : trimL out = digs (val a / d) ∧ r = val a % d := by
  have h1 := h.eq
  have h2 := h.r0
  simp only [List.drop_zero] at h1
  have e : val a / d = val out ∧ val a % d = r := by
    rw [h1]
    constructor
    · rw [Int.mul_add_ediv_left _ _ (by omega), Int.ediv_eq_zero_of_lt h2.1 h2.2]; omega
    · rw [Int.mul_add_emod_self_left, Int.emod_eq_of_lt h2.1 h2.2]
  exact ⟨trim_eq h.dig e.1.symm, e.2.symm⟩
theorem short_ok (a : List Int) (d : Int) (da : Dig a) (hd : 0 < d ∧ d ≤ 1048576) (hl : a.length ≤ 1000000) : ACalls Tryz.prog 125 [slI a, cI d] (.tup [slI (digs (val a / d)), cI (val a % d)]) := by
  have key : ∀ out : List Int, out.length = a.length → ACalls Tryz.prog 126 [slI out] (.pv (slI (trimL out))) := fun out ho => trim_ok out (by omega)
  refine ACalls.of_W (qs := [slI (digs (val a / d)), cI (val a % d)]) [4, 5] 38 Tryz.func125 (by kernel_rfl) rfl rfl rfl fun G => ?_
  refine W.initA (hw := ?_)
  repeat' (first | ((first | apply U_); (first | exact QX.B TYok | exact QX.Len TYok | exact QX.Idx TYok); exact rfl) | refine SX.Store TYok (h := ?_) | refine SX.Make TYok (h := ?_) | refine SC ?_ | (refine W.condA (ht := fun hb => ?_) (hf := fun hb => ?_) <;> (try simp at hb) <;> (try (exfalso; omega))))
  apply W.loopP (σ := Nat × Int × List Int) 38 [0, 1] (fun (i, r, out) => i ≤ a.length ∧ ShortI a out d i r) (fun (i, r, out) => [(8, vI ((i : Int) - 1)), (7, vI r), (6, (True, .slc 11))]) (fun (i, r, out) => [(11, ⟨3, 1, out.map Lf.encI⟩)]) (fun (i, r, out) => i) ((a.length, 0, List.replicate a.length 0))
  case hp => repeat (first | exact Pick.nil | apply Pick.cons rfl)
  case h0 =>
    refine ⟨⟨by simp, by simp, Dig.rep _, by omega, by simp [val]⟩, ?_⟩
    exact Le.auto
  case round =>
    rintro ⟨i, r, out⟩ ⟨g1, g2⟩
    have g3 := g2.len
    have g4 := g2.r0
    apply W.norm (by repeat (first | exact App.nil | apply App.cons))
    dsimp only at g1 g2 g3 g4 ⊢
    cases i with
    | succ i =>
      have hi : i < a.length := by omega
      have e1 : ((i + 1 : Nat) : Int) - 1 = i := by omega
      have g5 := da.nth hi
      rw [e1]
      repeat' (first | ((first | apply U_); (first | (apply Q_or20; exact Ev.auto; exact Ev.auto; (intro hg; first | omega | (simp; omega) | (simp at hg; simp; omega))) | (apply Q_shl20; exact Ev.auto; (intro hg; first | omega | (simp; omega) | (simp at hg; simp; omega))) | (apply Q_shr20; exact Ev.auto) | (apply Q_and1; exact Ev.auto) | (apply Q_mask20; exact Ev.auto) | exact QX.B TYok | exact QX.Len TYok | exact QX.Idx TYok); exact rfl) | refine SX.Store TYok (h := ?_) | refine SX.Make TYok (h := ?_) | refine SC ?_ | (refine W.condA (ht := fun hb => ?_) (hf := fun hb => ?_) <;> (try simp at hb) <;> (try (exfalso; omega))))
      refine ⟨(i, (r * 1048576 + nth a i) % d, out.set i ((r * 1048576 + nth a i) / d)), ⟨by omega, g2.step hi da hd⟩, ?_, by (try simp only); omega⟩
      exact Le.auto
    | zero =>
      repeat' (first | (refine W.weaken (Le.freeze1 (m := 11) rfl) ?_; apply W.region (id := 9)) | ((first | apply U_); (first | exact QX.B TYok | exact QX.Len TYok | exact QX.Idx TYok | exact QCd (key out g3)); exact rfl) | refine SX.Store TYok (h := ?_) | refine SX.Make TYok (h := ?_) | refine SC ?_ | (refine W.condA (ht := fun hb => ?_) (hf := fun hb => ?_) <;> (try simp at hb) <;> (try (exfalso; omega))))
      rw [← g2.done.1, ← g2.done.2]
      exact Fin.ret ResL.auto
end Go.Proofs.YtjedkgogjehigaaGreat
end
section
set_option linter.unusedVariables false
set_option linter.unusedSimpArgs false
set_option maxHeartbeats 8000000
set_option linter.unusedSectionVars false
namespace Go.Proofs.YtjedkgogjehigaaGreat
open Lf Go
attribute [local irreducible] PureOp EffOp Ev RG W Then InBlock Lf.Fin nth App InitE Pick SubE EvL EvD EvP EvR ResL Lf.Lex SubR SubBR RA RAll EvC FinO FinM ResM ResD FinS val pw digs trimL
theorem dig_fix {cur : List Int} (hd : Dig cur) {x : Int} (hx : val cur = x) {n : Nat} (hl : cur.length = n) : cur = digL n x := by
  have h1 := val_lo hd
  have h2 := val_hi hd
  rw [hl] at h2
  obtain ⟨h3, h4, h5⟩ := digL_ok n x (by omega)
  exact dig_uniq hd h3 (by rw [h4, hl]) (by rw [h5, hx])
theorem set_mid {pre cur post : List Int} {j : Nat} {x : Int} (hj : j < cur.length) : (pre ++ cur ++ post).set (pre.length + j) x = pre ++ cur.set j x ++ post := by
  rw [List.append_assoc, List.set_append_right _ _ (by omega), Nat.add_sub_cancel_left, List.set_append_left _ _ hj, List.append_assoc]
theorem nth_mid {pre cur post : List Int} {j : Nat} (hj : j < cur.length) : nth (pre ++ cur ++ post) (pre.length + j) = nth cur j := by
  rw [nth, nth, List.getD, List.getD, List.append_assoc, List.getElem?_append_right (by omega), Nat.add_sub_cancel_left, List.getElem?_append_left hj]
def vj (v : List Int) (j : Nat) : Int := if j < v.length then nth v j else 0
theorem vj_take (v : List Int) (j : Nat) : val (v.take (j + 1)) = val (v.take j) + pw j * vj v j := by
  unfold vj
  by_cases h : j < v.length
  · rw [val_take h, if_pos h]
  · rw [if_neg h, List.take_of_length_le (by omega), List.take_of_length_le (by omega)]; simp
theorem vj_dig {v : List Int} (dv : Dig v) (j : Nat) : 0 ≤ vj v j ∧ vj v j < 1048576 := by
  unfold vj
  by_cases h : j < v.length
  · rw [if_pos h]; exact dv.nth h
  · rw [if_neg h]; omega
theorem vj_yes {v : List Int} {j : Nat} (h : j < v.length) : vj v j = nth v j := if_pos h
theorem vj_no {v : List Int} {j : Nat} (h : ¬ j < v.length) : vj v j = 0 := if_neg h
structure SetI (P v cur : List Int) (g : Int) (j : Nat) (bo : Int) : Prop where
  len : cur.length = P.length
  dig : Dig cur
  rest : cur.drop j = P.drop j
  b0 : 0 ≤ bo ∧ bo ≤ g
  eq : val (cur.take j) - pw j * bo = val (P.take j) - g * val (v.take j)
theorem drop_tl {a b : List Int} {i : Nat} (h : a.drop i = b.drop i) (h1 : i < a.length) (h2 : i < b.length) : nth a i = nth b i ∧ a.drop (i + 1) = b.drop (i + 1) := by
  rw [drop_nth h1, drop_nth h2] at h
  exact List.cons.inj h
theorem SetI.step {P v cur : List Int} {g : Int} {j : Nat} {bo : Int} (h : SetI P v cur g j bo) (hj : j < P.length) (dP : Dig P) (dv : Dig v) {n : Int} (hn : n = nth cur j - bo - g * vj v j) :
    SetI P v (cur.set j (n % 1048576)) g (j + 1) (-(n / 1048576)) := by
  have h1 := h.len
  obtain ⟨h2, h3⟩ := drop_tl h.rest (by omega) hj
  have h4 := h.dig.nth (show j < cur.length by omega)
  have h5 := h.b0
  have h6 := vj_dig dv j
  have h7 : 0 ≤ g * vj v j := Int.mul_nonneg (by omega) h6.1
  have h8 : g * vj v j ≤ g * 1048575 := Int.mul_le_mul_of_nonneg_left (by omega) (by omega)
  refine ⟨by simp [h1], h.dig.set (by omega), by rw [drop_set_gt]; exact h3, by omega, ?_⟩
  have h9 := h.eq
  rw [step_val (by omega), val_take hj, pw, vj_take, ← h2]
  have e := Int.emod_add_mul_ediv n 1048576
  generalize n % 1048576 = r at e ⊢
  generalize n / 1048576 = q at e ⊢
  have e2 : r = n - 1048576 * q := by omega
  subst e2
  subst hn
  grind
theorem SetI.last {P v cur : List Int} {g q bo : Int} (h : SetI P v cur g P.length bo) (hl : v.length ≤ P.length) (hq : q ≤ g ∧ g ≤ q + 1) (hw : 0 ≤ val P - q * val v ∧ val P - q * val v < val v) (dv : Dig v) :
    (bo = 0 → g = q ∧ cur = digL P.length (val P - q * val v)) ∧ (¬ bo = 0 → g - 1 = q ∧ val cur + val v = pw P.length + (val P - q * val v)) := by
  have h1 := h.eq
  have h0 := h.len
  rw [List.take_of_length_le (by omega), List.take_length, List.take_of_length_le hl] at h1
  have h2 := val_lo h.dig
  have h3 := val_hi h.dig
  have h4 := val_lo dv
  have h6 := val_hi dv
  have h7 := pw_mono hl
  rw [h0] at h3
  have hb := h.b0
  have hg : g = q ∨ g = q + 1 := by omega
  constructor
  · rintro rfl
    rw [Int.mul_zero] at h1
    rcases hg with rfl | rfl
    · exact ⟨rfl, dig_fix h.dig (by omega) h0⟩
    · rw [Int.add_mul] at h1; omega
  · intro hne
    have hp := pw_pos P.length
    rcases hg with rfl | rfl
    · have : pw P.length * 1 ≤ pw P.length * bo := Int.mul_le_mul_of_nonneg_left (by omega) (by omega)
      omega
    · rw [Int.add_mul] at h1
      have : bo = 1 := by
        by_cases hb2 : bo = 1
        · exact hb2
        · have : pw P.length * 2 ≤ pw P.length * bo := Int.mul_le_mul_of_nonneg_left (by omega) (by omega)
          omega
      subst this
      omega
structure BackI (C v cur : List Int) (j : Nat) (c : Int) : Prop where
  len : cur.length = C.length
  dig : Dig cur
  rest : cur.drop j = C.drop j
  c0 : 0 ≤ c ∧ c ≤ 1
  eq : val (cur.take j) + pw j * c = val (C.take j) + val (v.take j)
theorem BackI.step {C v cur : List Int} {j : Nat} {c : Int} (h : BackI C v cur j c) (hj : j < C.length) (dv : Dig v) {n : Int} (hn : n = c + nth cur j + vj v j) :
    BackI C v (cur.set j (n % 1048576)) (j + 1) (n / 1048576) := by
  have h1 := h.len
  obtain ⟨h2, h3⟩ := drop_tl h.rest (by omega) hj
  have h4 := h.dig.nth (show j < cur.length by omega)
  have h5 := h.c0
  have h6 := vj_dig dv j
  refine ⟨by simp [h1], h.dig.set (by omega), by rw [drop_set_gt]; exact h3, by omega, ?_⟩
  have h9 := h.eq
  rw [step_val (by omega), val_take hj, pw, vj_take, ← h2]
  have e := Int.emod_add_mul_ediv n 1048576
  generalize n % 1048576 = r at e ⊢
  generalize n / 1048576 = q at e ⊢
  have e2 : r = n - 1048576 * q := by omega
  subst e2
  subst hn
  grind
theorem BackI.done {C v cur : List Int} {c x : Int} (h : BackI C v cur C.length c) (hl : v.length ≤ C.length) (hv : val C + val v = pw C.length + x) (hx : 0 ≤ x ∧ x < pw C.length) : cur = digL C.length x := by
  have h1 := h.eq
  have h0 := h.len
  rw [List.take_of_length_le (by omega), List.take_length, List.take_of_length_le hl] at h1
  have h2 := val_lo h.dig
  have h3 := val_hi h.dig
  rw [h0] at h3
  have hc : c = 0 ∨ c = 1 := by have := h.c0; omega
  rcases hc with rfl | rfl
  · omega
  · exact dig_fix h.dig (by omega) h0
theorem settle_ok (pre P post v : List Int) (g q : Int) (dP : Dig P) (dv : Dig v) (hl : P.length = v.length + 1) (hlen : (pre ++ P ++ post).length ≤ 1000000) (hg : 0 ≤ g ∧ g ≤ 1048576) (hq : q ≤ g ∧ g ≤ q + 1) (hw : 0 ≤ val P - q * val v ∧ val P - q * val v < val v) :
    SCalls Tryz.prog 128 3 1 ((pre ++ P ++ post).map Lf.encI) pre.length P.length [slI v, cI g] (fun _ _ => .pv (cI q)) ((pre ++ digL P.length (val P - q * val v) ++ post).map Lf.encI) := by
  rw [List.length_append, List.length_append] at hlen
  refine SCalls.of_W (qs := (fun _ _ => [cI q])) [6] 78 Tryz.func128 (by kernel_rfl) rfl rfl rfl rfl fun G b cap => ?_
  simp only [St.initS, initEnv, Nat.reduceAdd]
  repeat' (first | ((first | apply U_); (first | exact QX.B TYok | exact QX.Len TYok | exact QX.Idx TYok | (apply Q_lenP TYok; exact Ev.auto; exact rfl; exact rfl) | (apply Q_indexP TYok; exact Ev.auto; exact Ev.auto; exact rfl; exact rfl; exact rfl; exact rfl; exact rfl; exact rfl; (intro hg; first | omega | (simp; omega) | (simp at hg; simp; omega))) | (apply Q_cutP TYok; exact Ev.auto; exact Ev.auto; exact rfl; exact rfl; exact rfl; exact rfl; (focus (simp; done)); (intro hg; first | omega | (simp; omega) | (simp at hg; simp; omega)))); exact rfl) | refine SX.Store TYok (h := ?_) | refine SC ?_ | (apply S_isnil TYok; exact rfl; exact rfl; exact rfl; exact Ev.auto; intro bn hnil) | (refine W.condA (ht := fun hb => ?_) (hf := fun hb => ?_) <;> (try simp at hb) <;> (try (exfalso; omega))))
  apply W.loopP (σ := Nat × Int × List Int) 78 [0, 1, 2, 13] (fun (j, bo, cur) => j ≤ P.length ∧ SetI P v cur g j bo) (fun (j, bo, cur) => [(14, vI j), (7, vI bo)]) (fun (j, bo, cur) => [(0, ⟨3, 1, (pre ++ cur ++ post).map Lf.encI⟩)]) (fun (j, bo, cur) => P.length - j) ((0, 0, P))
  case hp => repeat (first | exact Pick.nil | apply Pick.cons rfl)
  case h0 =>
    refine ⟨⟨by simp, rfl, dP, rfl, by omega, by simp [val]⟩, ?_⟩
    exact Le.auto
  case round =>
    rintro ⟨j, bo, cur⟩ ⟨g1, g2⟩
    have g3 := g2.len
    have g4 := g2.b0
    apply W.norm (by repeat (first | exact App.nil | apply App.cons))
    dsimp only
    by_cases hj : j < P.length
    · have n1 : nth (pre ++ cur ++ post) (pre.length + ((j : Int)).toNat) = nth cur j := nth_mid (by omega)
      have n2 : ∀ x, (pre ++ cur ++ post).set (pre.length + ((j : Int)).toNat) x = pre ++ cur.set j x ++ post := fun x => set_mid (by omega)
      have n3 := g2.dig.nth (show j < cur.length by omega)
      by_cases hv : j < v.length
      · have n4 := dv.nth hv
        have n5 : 0 ≤ g * nth v j := Int.mul_nonneg (by omega) n4.1
        have n6 : g * nth v j ≤ g * 1048575 := Int.mul_le_mul_of_nonneg_left (by omega) (by omega)
        repeat' (first | ((first | apply U_); (first | (apply Q_or20; exact Ev.auto; exact Ev.auto; (intro hg; first | omega | (simp; omega) | (simp at hg; simp; omega))) | (apply Q_shl20; exact Ev.auto; (intro hg; first | omega | (simp; omega) | (simp at hg; simp; omega))) | (apply Q_shr20; exact Ev.auto) | (apply Q_and1; exact Ev.auto) | (apply Q_mask20; exact Ev.auto) | exact QX.B TYok | exact QX.Len TYok | exact QX.Idx TYok | (apply Q_lenP TYok; exact Ev.auto; exact rfl; exact rfl) | (apply Q_indexP TYok; exact Ev.auto; exact Ev.auto; exact rfl; exact rfl; exact rfl; exact rfl; exact rfl; exact rfl; (intro hg; first | omega | (simp; omega) | (simp at hg; simp; omega))) | (apply Q_cutP TYok; exact Ev.auto; exact Ev.auto; exact rfl; exact rfl; exact rfl; exact rfl; (focus (simp; done)); (intro hg; first | omega | (simp; omega) | (simp at hg; simp; omega)))); exact rfl) | refine SX.Store TYok (h := ?_) | refine SC ?_ | (apply S_isnil TYok; exact rfl; exact rfl; exact rfl; exact Ev.auto; intro bn hnil) | (refine W.condA (ht := fun hb => ?_) (hf := fun hb => ?_) <;> (try simp at hb) <;> (try (exfalso; omega))))
        refine ⟨(j + 1, -((nth cur j - bo - g * nth v j) / 1048576), cur.set j ((nth cur j - bo - g * nth v j) % 1048576)), ⟨by omega, g2.step hj dP dv (by rw [vj_yes hv])⟩, ?_, by (try simp only); omega⟩
        simp only [n1, n2]
        exact Le.auto
      · repeat' (first | ((first | apply U_); (first | (apply Q_or20; exact Ev.auto; exact Ev.auto; (intro hg; first | omega | (simp; omega) | (simp at hg; simp; omega))) | (apply Q_shl20; exact Ev.auto; (intro hg; first | omega | (simp; omega) | (simp at hg; simp; omega))) | (apply Q_shr20; exact Ev.auto) | (apply Q_and1; exact Ev.auto) | (apply Q_mask20; exact Ev.auto) | exact QX.B TYok | exact QX.Len TYok | exact QX.Idx TYok | (apply Q_lenP TYok; exact Ev.auto; exact rfl; exact rfl) | (apply Q_indexP TYok; exact Ev.auto; exact Ev.auto; exact rfl; exact rfl; exact rfl; exact rfl; exact rfl; exact rfl; (intro hg; first | omega | (simp; omega) | (simp at hg; simp; omega))) | (apply Q_cutP TYok; exact Ev.auto; exact Ev.auto; exact rfl; exact rfl; exact rfl; exact rfl; (focus (simp; done)); (intro hg; first | omega | (simp; omega) | (simp at hg; simp; omega)))); exact rfl) | refine SX.Store TYok (h := ?_) | refine SC ?_ | (apply S_isnil TYok; exact rfl; exact rfl; exact rfl; exact Ev.auto; intro bn hnil) | (refine W.condA (ht := fun hb => ?_) (hf := fun hb => ?_) <;> (try simp at hb) <;> (try (exfalso; omega))))
        refine ⟨(j + 1, -((nth cur j - bo) / 1048576), cur.set j ((nth cur j - bo) % 1048576)), ⟨by omega, g2.step hj dP dv (by rw [vj_no hv, Int.mul_zero, Int.sub_zero])⟩, ?_, by (try simp only); omega⟩
        simp only [n1, n2]
        exact Le.auto
    · obtain rfl : j = P.length := by omega
      obtain ⟨m1, m2⟩ := g2.last (by omega) hq hw dv
      repeat' (first | ((first | apply U_); (first | exact QX.B TYok | exact QX.Len TYok | exact QX.Idx TYok | (apply Q_lenP TYok; exact Ev.auto; exact rfl; exact rfl) | (apply Q_indexP TYok; exact Ev.auto; exact Ev.auto; exact rfl; exact rfl; exact rfl; exact rfl; exact rfl; exact rfl; (intro hg; first | omega | (simp; omega) | (simp at hg; simp; omega))) | (apply Q_cutP TYok; exact Ev.auto; exact Ev.auto; exact rfl; exact rfl; exact rfl; exact rfl; (focus (simp; done)); (intro hg; first | omega | (simp; omega) | (simp at hg; simp; omega)))); exact rfl) | refine SX.Store TYok (h := ?_) | refine SC ?_ | (apply S_isnil TYok; exact rfl; exact rfl; exact rfl; exact Ev.auto; intro bn hnil) | (refine W.condA (ht := fun hb => ?_) (hf := fun hb => ?_) <;> (try simp at hb) <;> (try (exfalso; omega))))
      · obtain ⟨rfl, rfl⟩ := m1 (by omega)
        exact FinS.ret 0 rfl rfl rfl ResD.auto
      obtain ⟨m3, m4⟩ := m2 (by omega)
      apply W.loopP (σ := Nat × Int × List Int) 78 [0, 1, 2, 48] (fun (j, c, cu) => j ≤ P.length ∧ BackI cur v cu j c) (fun (j, c, cu) => [(49, vI j), (10, vI c)]) (fun (j, c, cu) => [(0, ⟨3, 1, (pre ++ cu ++ post).map Lf.encI⟩)]) (fun (j, c, cu) => P.length - j) ((0, 0, cur))
      case hp => repeat (first | exact Pick.nil | apply Pick.cons rfl)
      case h0 =>
        refine ⟨⟨by simp, rfl, g2.dig, rfl, by omega, by simp [val]⟩, ?_⟩
        exact Le.auto
      case round =>
        rintro ⟨j, c, cu⟩ ⟨f1, f2⟩
        have f3 := f2.len
        have f4 := f2.c0
        apply W.norm (by repeat (first | exact App.nil | apply App.cons))
        dsimp only
        by_cases hj : j < P.length
        · have n1 : nth (pre ++ cu ++ post) (pre.length + ((j : Int)).toNat) = nth cu j := nth_mid (by omega)
          have n2 : ∀ x, (pre ++ cu ++ post).set (pre.length + ((j : Int)).toNat) x = pre ++ cu.set j x ++ post := fun x => set_mid (by omega)
          have n3 := f2.dig.nth (show j < cu.length by omega)
          by_cases hv : j < v.length
          · have n4 := dv.nth hv
            repeat' (first | ((first | apply U_); (first | (apply Q_or20; exact Ev.auto; exact Ev.auto; (intro hg; first | omega | (simp; omega) | (simp at hg; simp; omega))) | (apply Q_shl20; exact Ev.auto; (intro hg; first | omega | (simp; omega) | (simp at hg; simp; omega))) | (apply Q_shr20; exact Ev.auto) | (apply Q_and1; exact Ev.auto) | (apply Q_mask20; exact Ev.auto) | exact QX.B TYok | exact QX.Len TYok | exact QX.Idx TYok | (apply Q_lenP TYok; exact Ev.auto; exact rfl; exact rfl) | (apply Q_indexP TYok; exact Ev.auto; exact Ev.auto; exact rfl; exact rfl; exact rfl; exact rfl; exact rfl; exact rfl; (intro hg; first | omega | (simp; omega) | (simp at hg; simp; omega))) | (apply Q_cutP TYok; exact Ev.auto; exact Ev.auto; exact rfl; exact rfl; exact rfl; exact rfl; (focus (simp; done)); (intro hg; first | omega | (simp; omega) | (simp at hg; simp; omega)))); exact rfl) | refine SX.Store TYok (h := ?_) | refine SC ?_ | (apply S_isnil TYok; exact rfl; exact rfl; exact rfl; exact Ev.auto; intro bn hnil) | (refine W.condA (ht := fun hb => ?_) (hf := fun hb => ?_) <;> (try simp at hb) <;> (try (exfalso; omega))))
            refine ⟨(j + 1, (c + nth cu j + nth v j) / 1048576, cu.set j ((c + nth cu j + nth v j) % 1048576)), ⟨by omega, f2.step (by omega) dv (by rw [vj_yes hv])⟩, ?_, by (try simp only); omega⟩
            simp only [n1, n2]
            exact Le.auto
          · repeat' (first | ((first | apply U_); (first | (apply Q_or20; exact Ev.auto; exact Ev.auto; (intro hg; first | omega | (simp; omega) | (simp at hg; simp; omega))) | (apply Q_shl20; exact Ev.auto; (intro hg; first | omega | (simp; omega) | (simp at hg; simp; omega))) | (apply Q_shr20; exact Ev.auto) | (apply Q_and1; exact Ev.auto) | (apply Q_mask20; exact Ev.auto) | exact QX.B TYok | exact QX.Len TYok | exact QX.Idx TYok | (apply Q_lenP TYok; exact Ev.auto; exact rfl; exact rfl) | (apply Q_indexP TYok; exact Ev.auto; exact Ev.auto; exact rfl; exact rfl; exact rfl; exact rfl; exact rfl; exact rfl; (intro hg; first | omega | (simp; omega) | (simp at hg; simp; omega))) | (apply Q_cutP TYok; exact Ev.auto; exact Ev.auto; exact rfl; exact rfl; exact rfl; exact rfl; (focus (simp; done)); (intro hg; first | omega | (simp; omega) | (simp at hg; simp; omega)))); exact rfl) | refine SX.Store TYok (h := ?_) | refine SC ?_ | (apply S_isnil TYok; exact rfl; exact rfl; exact rfl; exact Ev.auto; intro bn hnil) | (refine W.condA (ht := fun hb => ?_) (hf := fun hb => ?_) <;> (try simp at hb) <;> (try (exfalso; omega))))
            refine ⟨(j + 1, (c + nth cu j) / 1048576, cu.set j ((c + nth cu j) % 1048576)), ⟨by omega, f2.step (by omega) dv (by rw [vj_no hv, Int.add_zero])⟩, ?_, by (try simp only); omega⟩
            simp only [n1, n2]
            exact Le.auto
        · obtain rfl : j = P.length := by omega
          have e : cu = digL P.length (val P - q * val v) := by
            have := pw_mono (show v.length ≤ P.length by omega)
            have := val_hi dv
            rw [← g3]
            exact BackI.done (by rw [g3]; exact f2) (by omega) (by rw [g3]; exact m4) (by rw [g3]; omega)
          repeat' (first | ((first | apply U_); (first | exact QX.B TYok | exact QX.Len TYok | exact QX.Idx TYok | (apply Q_lenP TYok; exact Ev.auto; exact rfl; exact rfl) | (apply Q_indexP TYok; exact Ev.auto; exact Ev.auto; exact rfl; exact rfl; exact rfl; exact rfl; exact rfl; exact rfl; (intro hg; first | omega | (simp; omega) | (simp at hg; simp; omega))) | (apply Q_cutP TYok; exact Ev.auto; exact Ev.auto; exact rfl; exact rfl; exact rfl; exact rfl; (focus (simp; done)); (intro hg; first | omega | (simp; omega) | (simp at hg; simp; omega)))); exact rfl) | refine SX.Store TYok (h := ?_) | refine SC ?_ | (apply S_isnil TYok; exact rfl; exact rfl; exact rfl; exact Ev.auto; intro bn hnil) | (refine W.condA (ht := fun hb => ?_) (hf := fun hb => ?_) <;> (try simp at hb) <;> (try (exfalso; omega))))
          rw [← e, ← m3]
          exact FinS.ret 0 rfl rfl rfl ResD.auto
end Go.Proofs.YtjedkgogjehigaaGreat
end
