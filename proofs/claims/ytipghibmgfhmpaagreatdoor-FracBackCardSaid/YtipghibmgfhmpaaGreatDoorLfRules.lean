/-
  The rules as a walk uses them: each side condition by rfl, by arithmetic, or left.
-/
import Derived.Test.YtipghibmgfhmpaaGreatDoorLfLit
set_option linter.unusedVariables false
set_option linter.unusedSimpArgs false
set_option linter.unusedSectionVars false
namespace Lf
open Go Go.RowKit

theorem blt_lt {d n : Nat} (h : Nat.blt d n = true) : d < n := by simpa [Nat.blt_eq] using h

/-! ### Exits -/
section
variable {K : St → Prop} {Q : Exit → St → Prop} {A : St}
theorem Then.n (h : K A) : Then K Q .normal A := h
theorem Then.r (h : Q .ret A) : Then K Q .ret A := h
theorem Then.x {i : Nat} (h : Q (.exit i) A) : Then K Q (.exit i) A := h
theorem InBlock.n {id : Nat} (h : Q .normal A) : InBlock id Q .normal A := h
theorem InBlock.r {id : Nat} (h : Q .ret A) : InBlock id Q .ret A := h
theorem InBlock.hit {id : Nat} (h : Q .normal A) : InBlock id Q (.exit id) A := by simp [InBlock]; exact h
theorem InBlock.miss {id i : Nat} (hn : Nat.beq i id = false) (h : Q (.exit i) A) : InBlock id Q (.exit i) A := by
  have : i ≠ id := fun e => by subst e; simp at hn
  simp [InBlock, this]; exact h
end

section
variable {P : Program} {G : Ghost} {A : St} {n0 : Nat} {env : List (Nat × (Prop × AV))} {bl : List (Nat × Blk)} {T : TT} {o : Oper} {ops : Array Oper} {rest : List Oper} {Q : St → Prop} {p : Prop} {d : Nat}

theorem W.cut {σ : Type _} {x y : Code} {Q : Exit → St → Prop} (J : σ → St) (hx : W P G x (Then (fun A' => ∃ s, Le A' (J s)) Q) A) (hy : ∀ s, W P G y Q (J s)) : W P G (.seq x y) Q A :=
  W.seq (W.mono hx fun e A' h => by
    cases e with
    | normal => obtain ⟨s, hl⟩ := h; exact W.weaken hl (hy s)
    | exit id => exact h
    | goto id => exact h
    | ret => exact h
    | panic c => exact h
    | outgrown => exact h)

theorem lk_fgt_some {n t : Nat} {q : Prop} {v : AV} : ∀ {env : List (Nat × (Prop × AV))}, lk env t = some (q, v) → lk (fgt n env) t = some (q, bif v.ment n then .top else v)
  | [], h => by simp [lk] at h
  | (s, (q0, v0)) :: r, h => by
    rw [lk_cons] at h
    rw [fgt, lk_cons]
    split at h
    · rename_i e
      simp only [Option.some.injEq, Prod.mk.injEq] at h
      rw [if_pos e, h.1, h.2]
    · rename_i e
      rw [if_neg e]
      exact lk_fgt_some h
theorem AVRel.congr {Φ : Frz} {β : Own} {bl bl' : List (Nat × Blk)} {v : Value} {x : AV} (hl : ∀ m, lk bl m = lk bl' m) (h : AVRel Φ β bl v x) : AVRel Φ β bl' v x := by
  cases x with
  | pv p => exact h
  | tup l => exact h
  | top => trivial
  | addr n i off => obtain ⟨b, cap, B, h1, h2, h3⟩ := h; exact ⟨b, cap, B, h1, by rw [← hl]; exact h2, h3⟩
  | slc n => obtain ⟨B, h1, h2⟩ := h; exact ⟨B, by rw [← hl]; exact h1, h2⟩
  | mp n => obtain ⟨b, cap, B, h1, h2, h3⟩ := h; exact ⟨b, cap, B, h1, by rw [← hl]; exact h2, h3⟩
  | itr d n => obtain ⟨b, cap, B, M, c, h1, h2, h3, h4, h5, h6⟩ := h; exact ⟨b, cap, B, M, c, h1, by rw [← hl]; exact h2, h3, h4, by rw [← hl]; exact h5, h6⟩
  | pin n b0 c0 f => obtain ⟨B, h1, h2, h3⟩ := h; exact ⟨B, h1, by rw [← hl]; exact h2, h3⟩
/-- A block under a name that names nothing yet: no slot speaks of it. -/
theorem EffOp.fresh {B : Blk} {x : AV} (hfr : lk bl d = none) (h : EffOp P G (St.mk n0 env bl) o (((St.mk n0 env bl).bind d d B).set d True x)) : EffOp P G (St.mk n0 env bl) o (St.mk n0 ((d, (True, x)) :: env) ((d, B) :: bl)) := fun Φ β a w hs =>
  Oper.wp_mono' (h Φ β a w hs) (fun a' w' ⟨Φ', β', hs', hle⟩ => by
    have hl : ∀ m, lk ((d, B) :: (d, deadBlk) :: bl) m = lk ((d, B) :: bl) m := fun m => by
      rw [lk_cons, lk_cons, lk_cons]; split <;> rfl
    refine ⟨Φ', β', ⟨hs'.kept, hs'.fits, hs'.old, hs'.siz, hs'.dfr, fun t q v h1 => ?_, fun n C b cap h1 h2 => hs'.blk n C b cap ((hl n).trans h1) h2, fun n C h1 h2 => hs'.vir n C ((hl n).trans h1) h2, fun n n' C C' b c c' h1 h2 h3 h4 => hs'.inj n n' C C' b c c' ((hl n).trans h1) ((hl n').trans h2) h3 h4⟩, hle⟩
    rw [lk_cons] at h1
    by_cases e : d = t
    · rw [if_pos e] at h1
      have := hs'.env t q v (by simp only [St.set, St.bind]; rw [lk_cons, if_pos e]; exact h1)
      exact ⟨fun hq => (this.1 hq).congr hl, this.2⟩
    · rw [if_neg e] at h1
      have hno : q → v.ment d = false := fun hq => by
        have h2 := (hs.env t q v h1).1 hq
        cases v with
        | pv p => rfl
        | tup l => rfl
        | top => rfl
        | addr m i off =>
          obtain ⟨b, cap, C, g1, g2, g3⟩ := h2
          cases hm : (AV.addr m i off).ment d with
          | false => rfl
          | true => have e2 : m = d := Nat.eq_of_beq_eq_true hm; subst e2; rw [hfr] at g2; cases g2
        | pin m b0 c0 f =>
          obtain ⟨C, g1, g2, g3⟩ := h2
          cases hm : (AV.pin m b0 c0 f).ment d with
          | false => rfl
          | true => have e2 : m = d := Nat.eq_of_beq_eq_true hm; subst e2; rw [hfr] at g2; cases g2
        | slc m =>
          obtain ⟨C, g2, g3⟩ := h2
          cases hm : (AV.slc m).ment d with
          | false => rfl
          | true => have e2 : m = d := Nat.eq_of_beq_eq_true hm; subst e2; rw [hfr] at g2; cases g2
        | mp m =>
          obtain ⟨b, cap, C, g1, g2, g3⟩ := h2
          cases hm : (AV.mp m).ment d with
          | false => rfl
          | true => have e2 : m = d := Nat.eq_of_beq_eq_true hm; subst e2; rw [hfr] at g2; cases g2
        | itr e m =>
          obtain ⟨b, cap, C, M, c, g1, g2, g3, g4, g5, g6⟩ := h2
          cases hm : (AV.itr e m).ment d with
          | false => rfl
          | true =>
            simp only [AV.ment, Bool.or_eq_true] at hm
            rcases hm with hm | hm
            · have e2 : e = d := Nat.eq_of_beq_eq_true hm; subst e2; rw [hfr] at g2; cases g2
            · have e2 : m = d := Nat.eq_of_beq_eq_true hm; subst e2; rw [hfr] at g5; cases g5
      have h3 := hs'.env t q _ (by simp only [St.set, St.bind]; rw [lk_cons, if_neg e]; exact lk_fgt_some (lk_fgt_some h1))
      refine ⟨fun hq => ?_, h3.2⟩
      have h4 := h3.1 hq
      rw [hno hq] at h4
      simp only [cond_false] at h4
      rw [hno hq] at h4
      exact h4.congr hl) (fun _ _ _ h => h)

/-- an operation that is carried out in any case, and puts a value into a slot -/
theorem U_ {d : Nat} {op : Op} {ty : TypeId} {pos : String} {after : Array Edge} {v : AV} (hp : PureOp P G (St.mk n0 env bl) ⟨some d, op, ty, pos, after, none⟩ True v) (hn : Nat.blt d n0 = true)
    (h : RG P G ops rest Q (St.mk n0 ((d, (True, v)) :: env) bl)) : RG P G ops (⟨some d, op, ty, pos, after, none⟩ :: rest) Q (St.mk n0 env bl) := RG.pure (GOk.none rfl) hp rfl (blt_lt hn) h
/-- an operation under a guard -/
theorem Ug_ {d j t : Nat} {want b : Bool} {op : Op} {ty : TypeId} {pos : String} {after : Array Edge} {v : AV} (hj : (ops[j]?).bind (·.dst) = some t) (ht : lk env t = some (True, .pv (.one (.bool b))))
    (hp : PureOp P G (St.mk n0 env bl) ⟨some d, op, ty, pos, after, some (j, want)⟩ (b = want) v) (hn : Nat.blt d n0 = true)
    (h : RG P G ops rest Q (St.mk n0 ((d, (b = want, v)) :: env) bl)) : RG P G ops (⟨some d, op, ty, pos, after, some (j, want)⟩ :: rest) Q (St.mk n0 env bl) := RG.pure (GOk.ifT rfl hj ht) hp rfl (blt_lt hn) h
theorem Ugq_ {d j t : Nat} {want b : Bool} {q : Prop} {op : Op} {ty : TypeId} {pos : String} {after : Array Edge} {v : AV} (hj : (ops[j]?).bind (·.dst) = some t) (ht : lk env t = some (q, .pv (.one (.bool b))))
    (hp : PureOp P G (St.mk n0 env bl) ⟨some d, op, ty, pos, after, some (j, want)⟩ (q ∧ b = want) v) (hn : Nat.blt d n0 = true)
    (h : RG P G ops rest Q (St.mk n0 ((d, (q ∧ b = want, v)) :: env) bl)) : RG P G ops (⟨some d, op, ty, pos, after, some (j, want)⟩ :: rest) Q (St.mk n0 env bl) := RG.pure (GOk.if rfl hj ht) hp rfl (blt_lt hn) h

/-! what the operations make -/
variable {dst : Option Nat} {ty : TypeId} {pos : String} {after : Array Edge} {gd : Option (Nat × Bool)}
theorem Q_move {x : Operand} {v : AV} (hx : Ev (St.mk n0 env bl) p x v) : PureOp P G (St.mk n0 env bl) ⟨dst, .move x, ty, pos, after, gd⟩ p v := P_move rfl hx
theorem Q_assign {x : Operand} {v : AV} (hx : Ev (St.mk n0 env bl) p x v) : PureOp P G (St.mk n0 env bl) ⟨dst, .assign x, ty, pos, after, gd⟩ p v := P_assign rfl hx
theorem Q_or {c y : Operand} {b bz : Bool} (hc : Ev (St.mk n0 env bl) p c (.pv (.one (.bool b)))) (hy : Ev (St.mk n0 env bl) (p ∧ b = false) y (.pv (.one (.bool bz)))) :
    PureOp P G (St.mk n0 env bl) ⟨dst, .pick c (.const (.bool true)) y, ty, pos, after, gd⟩ p (.pv (.one (.bool (b || bz)))) := P_or rfl hc hy
theorem Q_and {c x : Operand} {b bx : Bool} (hc : Ev (St.mk n0 env bl) p c (.pv (.one (.bool b)))) (hx : Ev (St.mk n0 env bl) (p ∧ b = true) x (.pv (.one (.bool bx)))) :
    PureOp P G (St.mk n0 env bl) ⟨dst, .pick c x (.const (.bool false)), ty, pos, after, gd⟩ p (.pv (.one (.bool (b && bx)))) := P_and rfl hc hx
theorem i64_id {n : Int} (h : -9223372036854775808 ≤ n ∧ n ≤ 9223372036854775807) : IntKind.i64.wrap n = n := by rw [IntKind.wrap_i64]; omega
theorem Q_add {xt yt : Nat} {x y : Operand} {m n : Int} (hx : Ev (St.mk n0 env bl) p x (.pv (.one (.int .i64 m)))) (hy : Ev (St.mk n0 env bl) p y (.pv (.one (.int .i64 n)))) (hb : -9223372036854775808 ≤ m + n ∧ m + n ≤ 9223372036854775807) :
    PureOp P G (St.mk n0 env bl) ⟨dst, .binOp .add xt x y yt, ty, pos, after, gd⟩ p (.pv (.one (.int .i64 (m + n)))) := P_bin rfl hx hy (by simp only [binI]; rw [i64_id hb])
theorem Q_sub {xt yt : Nat} {x y : Operand} {m n : Int} (hx : Ev (St.mk n0 env bl) p x (.pv (.one (.int .i64 m)))) (hy : Ev (St.mk n0 env bl) p y (.pv (.one (.int .i64 n)))) (hb : -9223372036854775808 ≤ m - n ∧ m - n ≤ 9223372036854775807) :
    PureOp P G (St.mk n0 env bl) ⟨dst, .binOp .sub xt x y yt, ty, pos, after, gd⟩ p (.pv (.one (.int .i64 (m - n)))) := P_bin rfl hx hy (by simp only [binI]; rw [i64_id hb])
theorem Q_mul {xt yt : Nat} {x y : Operand} {m n : Int} (hx : Ev (St.mk n0 env bl) p x (.pv (.one (.int .i64 m)))) (hy : Ev (St.mk n0 env bl) p y (.pv (.one (.int .i64 n)))) (hb : -9223372036854775808 ≤ m * n ∧ m * n ≤ 9223372036854775807) :
    PureOp P G (St.mk n0 env bl) ⟨dst, .binOp .mul xt x y yt, ty, pos, after, gd⟩ p (.pv (.one (.int .i64 (m * n)))) := P_bin rfl hx hy (by simp only [binI]; rw [i64_id hb])
theorem Q_quo {xt yt : Nat} {x y : Operand} {k : IntKind} {m n : Int} (hx : Ev (St.mk n0 env bl) p x (.pv (.one (.int k m)))) (hy : Ev (St.mk n0 env bl) p y (.pv (.one (.int k n)))) (hz : p → n ≠ 0) :
    PureOp P G (St.mk n0 env bl) ⟨dst, .binOp .quo xt x y yt, ty, pos, after, gd⟩ p (.pv (.one (.int k (k.wrap (m.tdiv n))))) := P_quo rfl hx hy hz
/-- a quotient of numbers that are not negative -/
theorem Q_quoN {xt yt : Nat} {x y : Operand} {m n : Int} (hx : Ev (St.mk n0 env bl) p x (.pv (.one (.int .i64 m)))) (hy : Ev (St.mk n0 env bl) p y (.pv (.one (.int .i64 n)))) (hz : 0 ≤ m ∧ m ≤ 9223372036854775807 ∧ 0 < n) :
    PureOp P G (St.mk n0 env bl) ⟨dst, .binOp .quo xt x y yt, ty, pos, after, gd⟩ p (.pv (.one (.int .i64 (m / n)))) := by
  have h := P_quo (P := P) (G := G) (o := ⟨dst, .binOp .quo xt x y yt, ty, pos, after, gd⟩) rfl hx hy (fun _ => by omega)
  have e : m.tdiv n = m / n := Int.tdiv_eq_ediv_of_nonneg hz.1
  have h1 : 0 ≤ m / n := Int.ediv_nonneg hz.1 (by omega)
  have h2 : m / n ≤ m := Int.ediv_le_self _ hz.1
  rw [e, i64_id (by omega)] at h
  exact h
theorem Q_rem {xt yt : Nat} {x y : Operand} {k : IntKind} {m n : Int} (hx : Ev (St.mk n0 env bl) p x (.pv (.one (.int k m)))) (hy : Ev (St.mk n0 env bl) p y (.pv (.one (.int k n)))) (hz : p → n ≠ 0) :
    PureOp P G (St.mk n0 env bl) ⟨dst, .binOp .rem xt x y yt, ty, pos, after, gd⟩ p (.pv (.one (.int k (m.tmod n)))) := P_rem rfl hx hy hz
theorem Q_remN {xt yt : Nat} {x y : Operand} {k : IntKind} {m n : Int} (hx : Ev (St.mk n0 env bl) p x (.pv (.one (.int k m)))) (hy : Ev (St.mk n0 env bl) p y (.pv (.one (.int k n)))) (hz : 0 ≤ m ∧ 0 < n) :
    PureOp P G (St.mk n0 env bl) ⟨dst, .binOp .rem xt x y yt, ty, pos, after, gd⟩ p (.pv (.one (.int k (m % n)))) := by
  have h := P_rem (P := P) (G := G) (o := ⟨dst, .binOp .rem xt x y yt, ty, pos, after, gd⟩) rfl hx hy (fun _ => by omega)
  rw [Int.tmod_eq_emod_of_nonneg hz.1] at h
  exact h
theorem Q_bin {op : BinOp} {xt yt : Nat} {x y : Operand} {k : IntKind} {m n : Int} {c : Cell} (hx : Ev (St.mk n0 env bl) p x (.pv (.one (.int k m)))) (hy : Ev (St.mk n0 env bl) p y (.pv (.one (.int k n)))) (hr : binI op k m n = some c) :
    PureOp P G (St.mk n0 env bl) ⟨dst, .binOp op xt x y yt, ty, pos, after, gd⟩ p (.pv (.one c)) := P_bin rfl hx hy hr
theorem Q_binS {op : BinOp} {xt yt : Nat} {x y : Operand} {m n : List UInt8} {c : Cell} (hx : Ev (St.mk n0 env bl) p x (.pv (.one (.str m)))) (hy : Ev (St.mk n0 env bl) p y (.pv (.one (.str n)))) (hr : binS op m n = some c) :
    PureOp P G (St.mk n0 env bl) ⟨dst, .binOp op xt x y yt, ty, pos, after, gd⟩ p (.pv (.one c)) := P_binS rfl hx hy hr
theorem Q_shl {xt yt : Nat} {x y : Operand} {k yk : IntKind} {m n : Int} (hx : Ev (St.mk n0 env bl) p x (.pv (.one (.int k m)))) (hy : Ev (St.mk n0 env bl) p y (.pv (.one (.int yk n)))) (hz : p → 0 ≤ n) :
    PureOp P G (St.mk n0 env bl) ⟨dst, .binOp .shl xt x y yt, ty, pos, after, gd⟩ p (.pv (.one (.int k (k.wrap (m * 2 ^ min n.toNat k.bits))))) := P_shl rfl hx hy hz
theorem Q_shr {xt yt : Nat} {x y : Operand} {k yk : IntKind} {m n : Int} (hx : Ev (St.mk n0 env bl) p x (.pv (.one (.int k m)))) (hy : Ev (St.mk n0 env bl) p y (.pv (.one (.int yk n)))) (hz : p → 0 ≤ n) :
    PureOp P G (St.mk n0 env bl) ⟨dst, .binOp .shr xt x y yt, ty, pos, after, gd⟩ p (.pv (.one (.int k (m.fdiv (2 ^ min n.toNat k.bits))))) := P_shr rfl hx hy hz
theorem Q_not {xt : Nat} {x : Operand} {b : Bool} (hx : Ev (St.mk n0 env bl) p x (.pv (.one (.bool b)))) : PureOp P G (St.mk n0 env bl) ⟨dst, .unOp .not xt x, ty, pos, after, gd⟩ p (.pv (.one (.bool (!b)))) := P_not rfl hx
theorem Q_neg {xt : Nat} {x : Operand} {n : Int} (hx : Ev (St.mk n0 env bl) p x (.pv (.one (.int .i64 n)))) (hb : -9223372036854775808 ≤ -n ∧ -n ≤ 9223372036854775807) : PureOp P G (St.mk n0 env bl) ⟨dst, .unOp .neg xt x, ty, pos, after, gd⟩ p (.pv (.one (.int .i64 (-n)))) := by
  have h := P_neg (P := P) (G := G) (o := ⟨dst, .unOp .neg xt x, ty, pos, after, gd⟩) rfl hx
  rw [show (0 - n) = -n by omega, i64_id hb] at h
  exact h
theorem Q_negw {xt : Nat} {x : Operand} {k : IntKind} {n : Int} (hx : Ev (St.mk n0 env bl) p x (.pv (.one (.int k n)))) : PureOp P G (St.mk n0 env bl) ⟨dst, .unOp .neg xt x, ty, pos, after, gd⟩ p (.pv (.one (.int k (k.wrap (0 - n))))) := P_neg rfl hx
theorem Q_extract {x : Operand} {i : Nat} {l : List PV} {q : PV} (hx : Ev (St.mk n0 env bl) p x (.tup l)) (hi : l[i]? = some q) : PureOp P G (St.mk n0 env bl) ⟨dst, .extract x i, ty, pos, after, gd⟩ p (.pv q) := P_extract rfl hx hi
theorem Q_call {f : FuncId} {xs : List Operand} {ats : Array TypeId} {ps : List PV} {r : AV} (hc : ACalls P f ps r) (hx : EvL (St.mk n0 env bl) p xs ps) (hr : r.flat = true) :
    PureOp P G (St.mk n0 env bl) ⟨dst, .call ⟨.value (.func f), xs.toArray, ats⟩, ty, pos, after, gd⟩ p r := P_call rfl hx hc.fn (fun _ => hc) hr
theorem Q_callp {f : FuncId} {xs : List Operand} {ats : Array TypeId} {ps : List PV} {r : AV} (hf : FnOK P f) (hc : p → ACalls P f ps r) (hx : EvL (St.mk n0 env bl) p xs ps) (hr : r.flat = true) :
    PureOp P G (St.mk n0 env bl) ⟨dst, .call ⟨.value (.func f), xs.toArray, ats⟩, ty, pos, after, gd⟩ p r := P_call rfl hx hf hc hr
theorem Q_calld {f : FuncId} {xs : List Operand} {ats : Array TypeId} {ps : List PV} {r : AV} (hc : ACalls P f ps r) (hx : EvD (St.mk n0 env bl) p xs ps) :
    PureOp P G (St.mk n0 env bl) ⟨dst, .call ⟨.value (.func f), xs.toArray, ats⟩, ty, pos, after, gd⟩ p r := P_calld rfl hx hc.fn (fun _ => hc)
theorem Q_max {x y : Operand} {k : IntKind} {m n : Int} {ats : Array TypeId} (hx : Ev (St.mk n0 env bl) p x (.pv (.one (.int k m)))) (hy : Ev (St.mk n0 env bl) p y (.pv (.one (.int k n)))) :
    PureOp P G (St.mk n0 env bl) ⟨dst, .call ⟨.builtin .max, #[x, y], ats⟩, ty, pos, after, gd⟩ p (.pv (.one (.int k (max m n)))) := P_max rfl hx hy
theorem Q_min {x y : Operand} {k : IntKind} {m n : Int} {ats : Array TypeId} (hx : Ev (St.mk n0 env bl) p x (.pv (.one (.int k m)))) (hy : Ev (St.mk n0 env bl) p y (.pv (.one (.int k n)))) :
    PureOp P G (St.mk n0 env bl) ⟨dst, .call ⟨.builtin .min, #[x, y], ats⟩, ty, pos, after, gd⟩ p (.pv (.one (.int k (min m n)))) := P_min rfl hx hy
theorem EvL.nil : EvL A p [] [] := trivial
theorem EvL.cons {x : Operand} {xs : List Operand} {q r : PV} {qs : List PV} {av : AV} (h : Ev A p x av) (hq : toPV A.blks av = some r) (hs : PSub r q) (ht : EvL A p xs qs) : EvL A p (x :: xs) (q :: qs) := ⟨⟨av, r, h, hq, hs⟩, ht⟩
theorem EvD.nil : EvD A p [] [] := trivial
theorem EvD.cons {x : Operand} {xs : List Operand} {q r : PV} {qs : List PV} (h : Ev A p x (.pv r)) (hs : PSub r q) (ht : EvD A p xs qs) : EvD A p (x :: xs) (q :: qs) := ⟨⟨r, h, hs⟩, ht⟩
theorem PSub.rfl' {q : PV} : PSub q q := PSub.refl q
theorem PSub.nil' : PSub (.one .slnil) (.one (.sl [])) := CSub.nil
theorem EvP.nil : EvP A p [] [] := trivial
theorem EvP.cons {i : Nat} {x : Operand} {xs : List (Nat × Operand)} {q : PV} {qs : List (Nat × PV)} (h : Ev A p x (.pv q)) (ht : EvP A p xs qs) : EvP A p ((i, x) :: xs) ((i, q) :: qs) := ⟨⟨rfl, _, h, rfl, rfl⟩, ht⟩
theorem EvR.nil {k : Nat} : EvR A [] k [] := trivial
theorem EvR.cons {k : Nat} {x : Operand} {xs : List (Nat × Operand)} {q : PV} {rs : List (List Cell)} (h : Ev A True x (.pv q)) (ht : EvR A xs (k + 1) rs) : EvR A ((k, x) :: xs) k (q.cells :: rs) := ⟨⟨rfl, _, h, rfl⟩, ht⟩

variable (hT : TOK P T)
include hT
theorem Q_conv {src t : Nat} {x : Operand} {ks kd : IntKind} {n : Int} {ti tj : TI} (hs0 : T src = some ti) (hk : ti.kind = .int ks) (hd0 : T t = some tj) (hk' : tj.kind = .int kd) (hx : Ev (St.mk n0 env bl) p x (.pv (.one (.int ks n)))) :
    PureOp P G (St.mk n0 env bl) ⟨dst, .convert src t x, ty, pos, after, gd⟩ p (.pv (.one (.int kd (kd.wrap n)))) := P_conv_int hT rfl hs0 hk hd0 hk' hx
theorem Q_convI {src t : Nat} {x : Operand} {ks : IntKind} {n : Int} {ti tj : TI} (hs0 : T src = some ti) (hk : ti.kind = .int ks) (hd0 : T t = some tj) (hk' : tj.kind = .int .i64) (hx : Ev (St.mk n0 env bl) p x (.pv (.one (.int ks n)))) (hb : -9223372036854775808 ≤ n ∧ n ≤ 9223372036854775807) :
    PureOp P G (St.mk n0 env bl) ⟨dst, .convert src t x, ty, pos, after, gd⟩ p (.pv (.one (.int .i64 n))) := by
  have h := P_conv_int (P := P) (G := G) hT (o := ⟨dst, .convert src t x, ty, pos, after, gd⟩) rfl hs0 hk hd0 hk' hx
  rw [i64_id hb] at h
  exact h
theorem Q_load {t n i off : Nat} {x : Operand} {ti : TI} {B : Blk} {r : List Cell} {c : Cell} (ht : T t = some ti) (hb : ti.kind.isAgg = some false) (hx : Ev (St.mk n0 env bl) p x (.addr n i off))
    (hl : lk bl n = some B) (hr : B.rows[i]? = some r) (hc : r[off]? = some c) : PureOp P G (St.mk n0 env bl) ⟨dst, .load t x, ty, pos, after, gd⟩ p (.pv (.one c)) := P_load_own hT rfl ht hb hx hl (fun _ => hr) (fun _ => hc)
theorem Q_loada {t n i off : Nat} {x : Operand} {ti : TI} {B : Blk} {r : List Cell} (ht : T t = some ti) (hb : ti.kind.isAgg = some true) (hx : Ev (St.mk n0 env bl) p x (.addr n i off))
    (hl : lk bl n = some B) (hr : B.rows[i]? = some r) (hc : Nat.ble (off + ti.sz) r.length = true) : PureOp P G (St.mk n0 env bl) ⟨dst, .load t x, ty, pos, after, gd⟩ p (.pv (.agg ((r.drop off).take ti.sz))) :=
  P_load_own_agg hT rfl ht hb hx hl (fun _ => hr) (fun _ => Nat.le_of_ble_eq_true hc)
theorem Q_loadp {t : Nat} {x : Operand} {ti : TI} {cs : List Cell} {c : Cell} (ht : T t = some ti) (hb : ti.kind.isAgg = some false) (hx : Ev (St.mk n0 env bl) p x (.pv (.one (.ptr cs)))) (hc : cs[0]? = some c) :
    PureOp P G (St.mk n0 env bl) ⟨dst, .load t x, ty, pos, after, gd⟩ p (.pv (.one c)) := P_load_ptr hT rfl ht hb hx (fun _ => hc)
theorem Q_loadpa {t : Nat} {x : Operand} {ti : TI} {cs : List Cell} (ht : T t = some ti) (hb : ti.kind.isAgg = some true) (hx : Ev (St.mk n0 env bl) p x (.pv (.one (.ptr cs)))) (hc : Nat.ble ti.sz cs.length = true) :
    PureOp P G (St.mk n0 env bl) ⟨dst, .load t x, ty, pos, after, gd⟩ p (.pv (.agg (cs.take ti.sz))) := P_load_ptr_agg hT rfl ht hb hx (fun _ => Nat.le_of_ble_eq_true hc)
theorem Q_field {s f n i off fo ft : Nat} {x : Operand} {ti tj : TI} {fs : List (Nat × Nat)} (hx : Ev (St.mk n0 env bl) p x (.addr n i off)) (ht : T s = some ti) (hk : ti.kind = .struct fs) (hf : fs[f]? = some (fo, ft)) (hj : T ft = some tj) (hz : Nat.blt 0 tj.sz = true) :
    PureOp P G (St.mk n0 env bl) ⟨dst, .fieldAddr s x f, ty, pos, after, gd⟩ p (.addr n i (off + fo)) := P_field_own hT rfl ht hk hf hj (Nat.ne_of_gt (blt_lt hz)) hx
theorem Q_fieldp {s f fo ft : Nat} {x : Operand} {ti tj : TI} {fs : List (Nat × Nat)} {cs : List Cell} (hx : Ev (St.mk n0 env bl) p x (.pv (.one (.ptr cs)))) (ht : T s = some ti) (hk : ti.kind = .struct fs) (hf : fs[f]? = some (fo, ft)) (hj : T ft = some tj) (hz : Nat.blt 0 tj.sz = true) :
    PureOp P G (St.mk n0 env bl) ⟨dst, .fieldAddr s x f, ty, pos, after, gd⟩ p (.pv (.one (.ptr (cs.drop fo)))) := P_field_ptr hT rfl ht hk hf hj (Nat.ne_of_gt (blt_lt hz)) hx
theorem Q_index {t e n : Nat} {x y : Operand} {ti te : TI} {B : Blk} {k : IntKind} {i : Int} (hx : Ev (St.mk n0 env bl) p x (.slc n)) (hy : Ev (St.mk n0 env bl) p y (.pv (.one (.int k i)))) (ht : T t = some ti) (hk : ti.kind = .slice e) (he : T e = some te)
    (hl : lk bl n = some B) (hz : te.sz = B.sz) (hi : p → 0 ≤ i ∧ i < B.rows.length) : PureOp P G (St.mk n0 env bl) ⟨dst, .indexAddr t x y, ty, pos, after, gd⟩ p (.addr n i.toNat 0) := P_index_own hT rfl ht hk he hx hy hl hz hi
theorem Q_indexd {t e : Nat} {x y : Operand} {ti te : TI} {rows : List (List Cell)} {r : List Cell} {k : IntKind} {i : Int} (hx : Ev (St.mk n0 env bl) p x (.pv (.one (.sl rows)))) (hy : Ev (St.mk n0 env bl) p y (.pv (.one (.int k i)))) (ht : T t = some ti) (hk : ti.kind = .slice e) (he : T e = some te)
    (hr : p → 0 ≤ i ∧ rows[i.toNat]? = some r) (hz : r.length = te.sz) : PureOp P G (St.mk n0 env bl) ⟨dst, .indexAddr t x y, ty, pos, after, gd⟩ p (.pv (.one (.ptr r))) := P_index_sl hT rfl ht hk he hx hy hr (fun _ => hz)
theorem Q_indexs {t : Nat} {x y : Operand} {ti : TI} {l : List UInt8} {k : IntKind} {i : Int} {c : UInt8} (hx : Ev (St.mk n0 env bl) p x (.pv (.one (.str l)))) (hy : Ev (St.mk n0 env bl) p y (.pv (.one (.int k i)))) (ht : T t = some ti) (hk : ti.kind = .string)
    (hr : p → 0 ≤ i ∧ l[i.toNat]? = some c) : PureOp P G (St.mk n0 env bl) ⟨dst, .index t x y, ty, pos, after, gd⟩ p (.pv (.one (.int .u8 c.toNat))) := P_index_str hT rfl ht hk hx hy hr
theorem Q_lend {t e : Nat} {x : Operand} {ti : TI} {rows : List (List Cell)} (hx : Ev (St.mk n0 env bl) p x (.pv (.one (.sl rows)))) (ht : T t = some ti) (hk : ti.kind = .slice e) :
    PureOp P G (St.mk n0 env bl) ⟨dst, .call ⟨.builtin .len, #[x], #[t]⟩, ty, pos, after, gd⟩ p (.pv (.one (.int .i64 rows.length))) := P_len_sl hT rfl ht hk hx
theorem Q_len {t e n : Nat} {x : Operand} {ti : TI} {B : Blk} (hx : Ev (St.mk n0 env bl) p x (.slc n)) (ht : T t = some ti) (hk : ti.kind = .slice e) (hl : lk bl n = some B) :
    PureOp P G (St.mk n0 env bl) ⟨dst, .call ⟨.builtin .len, #[x], #[t]⟩, ty, pos, after, gd⟩ p (.pv (.one (.int .i64 B.rows.length))) := P_len_own hT rfl ht hk hx hl
theorem Q_len0 {t e : Nat} {x : Operand} {ti : TI} (hx : Ev (St.mk n0 env bl) p x (.pv (.one .slnil))) (ht : T t = some ti) (hk : ti.kind = .slice e) :
    PureOp P G (St.mk n0 env bl) ⟨dst, .call ⟨.builtin .len, #[x], #[t]⟩, ty, pos, after, gd⟩ p (.pv (.one (.int .i64 0))) := P_len_nil hT rfl ht hk hx
theorem Q_lens {t : Nat} {x : Operand} {ti : TI} {l : List UInt8} (hx : Ev (St.mk n0 env bl) p x (.pv (.one (.str l)))) (ht : T t = some ti) (hk : ti.kind = .string) :
    PureOp P G (St.mk n0 env bl) ⟨dst, .call ⟨.builtin .len, #[x], #[t]⟩, ty, pos, after, gd⟩ p (.pv (.one (.int .i64 l.length))) := P_len_str hT rfl ht hk hx
theorem Q_build {t : Nat} {ps : List (Nat × Operand)} {qs : List (Nat × PV)} {ti : TI} {fs : List (Nat × Nat)} {res : List Cell} (hx : EvP (St.mk n0 env bl) p ps qs) (ht : T t = some ti) (hk : ti.kind = .struct fs) (hfs : fs.all (fun f => (T f.2).isSome) = true)
    (hf : fillC (placeS T fs) ti.zero.cells qs = some res) : PureOp P G (St.mk n0 env bl) ⟨dst, .build t ps.toArray, ty, pos, after, gd⟩ p (.pv (.agg res)) := P_build hT rfl ht hk (fun f hf => List.all_eq_true.1 hfs f hf) hx hf

/-! effects -/
theorem S_alloc {t d : Nat} {ti : TI} (ht : T t = some ti) (hz : ti.zero.cells.length = ti.sz) (hfr : lk bl d = none) (hn : Nat.blt d n0 = true)
    (h : RG P G ops rest Q (St.mk n0 ((d, (True, .addr d 0 0)) :: env) ((d, ⟨t, ti.sz, [ti.zero.cells]⟩) :: bl))) : RG P G ops (⟨some d, .alloc t, ty, pos, after, none⟩ :: rest) Q (St.mk n0 env bl) :=
  RG.eff rfl (EffOp.fresh hfr (E_alloc hT rfl rfl (blt_lt hn) ht hz)) h
omit hT in
theorem S_box {t d : Nat} {x : Operand} {q : PV} (hx : Ev (St.mk n0 env bl) True x (.pv q)) (hsm : Nat.ble mapTag t = false) (hfr : lk bl d = none) (hn : Nat.blt d n0 = true)
    (h : RG P G ops rest Q (St.mk n0 ((d, (True, .addr d 0 0)) :: env) ((d, ⟨t, q.cells.length, [q.cells]⟩) :: bl))) : RG P G ops (⟨some d, .box t x, ty, pos, after, none⟩ :: rest) Q (St.mk n0 env bl) :=
  RG.eff rfl (EffOp.fresh hfr (E_box hsm rfl rfl (blt_lt hn) hx)) h
theorem S_store {t n i off : Nat} {x y : Operand} {ti : TI} {B : Blk} {r : List Cell} {q : PV} (hx : Ev (St.mk n0 env bl) True x (.addr n i off)) (hy : Ev (St.mk n0 env bl) True y (.pv q)) (ht : T t = some ti) (hl : lk bl n = some B) (hr : B.rows[i]? = some r)
    (hq : q.cells.length = ti.sz) (hfit : Nat.ble (off + ti.sz) r.length = true) (h : RG P G ops rest Q (St.mk n0 env ((n, { B with rows := B.rows.set i (splice r off q.cells) }) :: bl))) :
    RG P G ops (⟨none, .store t x y, ty, pos, after, none⟩ :: rest) Q (St.mk n0 env bl) :=
  RG.eff rfl (E_store hT rfl rfl ht hx hy hl hr hq (Nat.le_of_ble_eq_true hfit)) h
theorem S_make {t e d : Nat} {x y : Operand} {kx ky : IntKind} {m c : Int} {ti te : TI} (hx : Ev (St.mk n0 env bl) True x (.pv (.one (.int kx m)))) (hy : Ev (St.mk n0 env bl) True y (.pv (.one (.int ky c)))) (ht : T t = some ti) (hk : ti.kind = .slice e) (he : T e = some te)
    (hzl : te.zero.cells.length = te.sz) (hmc : 0 ≤ m ∧ m ≤ c ∧ c * te.bytes ≤ 281474976710656 ∧ c ≤ 281474976710656) (hfr : lk bl d = none) (hn : Nat.blt d n0 = true)
    (h : RG P G ops rest Q (St.mk n0 ((d, (True, .slc d)) :: env) ((d, ⟨e, te.sz, List.replicate m.toNat te.zero.cells⟩) :: bl))) : RG P G ops (⟨some d, .makeSlice t x y, ty, pos, after, none⟩ :: rest) Q (St.mk n0 env bl) :=
  RG.eff rfl (EffOp.fresh hfr (E_make hT rfl rfl (blt_lt hn) ht hk he hzl hx hy hmc.1 hmc.2.1 hmc.2.2.1 hmc.2.2.2)) h
theorem S_lit {t e n d : Nat} {ps : List (Nat × Operand)} {rs : List (List Cell)} {ti te : TI} (hx : EvR (St.mk n0 env bl) ps 0 rs) (ht : T t = some ti) (hk : ti.kind = .slice e) (he : T e = some te) (hlen : rs.length = n) (hrs : rs.all (fun r => Nat.beq r.length te.sz) = true)
    (hb : Nat.ble (n * te.sz) 16777216 = true) (hn' : Nat.ble n 16777216 = true) (hfr : lk bl d = none) (hn : Nat.blt d n0 = true) (h : RG P G ops rest Q (St.mk n0 ((d, (True, .slc d)) :: env) ((d, ⟨e, te.sz, rs⟩) :: bl))) :
    RG P G ops (⟨some d, .buildSlice t n ps.toArray, ty, pos, after, none⟩ :: rest) Q (St.mk n0 env bl) :=
  RG.eff rfl (EffOp.fresh hfr (E_lit hT rfl rfl (blt_lt hn) ht hk he hx hlen (fun r hr => Nat.eq_of_beq_eq_true (List.all_eq_true.1 hrs r hr)) (Nat.le_of_ble_eq_true hb) (Nat.le_of_ble_eq_true hn'))) h
theorem S_append {t e n m d : Nat} {x y : Operand} {ti te : TI} {B C : Blk} (hx : Ev (St.mk n0 env bl) True x (.slc n)) (hy : Ev (St.mk n0 env bl) True y (.slc m)) (ht : T t = some ti) (hk : ti.kind = .slice e) (he : T e = some te) (hl : lk bl n = some B) (hm : lk bl m = some C)
    (hzl : te.zero.cells.length = te.sz) (hz : Nat.blt 0 te.sz = true) (hE : B.E = e) (hsz : B.sz = te.sz) (hCsz : C.sz = te.sz)
    (hb : (B.rows.length + C.rows.length) * te.bytes ≤ 140737488355328 ∧ B.rows.length + C.rows.length ≤ 140737488355328) (hn : Nat.blt d n0 = true)
    (h : RG P G ops rest Q (St.mk n0 ((d, (True, .slc d)) :: fgt d (fgt n env)) ((d, ⟨e, te.sz, B.rows ++ C.rows⟩) :: (n, deadBlk) :: bl))) : RG P G ops (⟨some d, .call ⟨.builtin .append, #[x, y], #[t, t]⟩, ty, pos, after, none⟩ :: rest) Q (St.mk n0 env bl) :=
  RG.eff rfl (E_append hT rfl rfl (blt_lt hn) ht hk he hzl (blt_lt hz) hx hl hE hsz hy hm hCsz (by by_cases h : d = n; exact .inl h; exact .inr (.inr h)) hb.1 hb.2) h
theorem S_append0 {t e m d : Nat} {x y : Operand} {ti te : TI} {C : Blk} (hx : Ev (St.mk n0 env bl) True x (.pv (.one .slnil))) (hy : Ev (St.mk n0 env bl) True y (.slc m)) (ht : T t = some ti) (hk : ti.kind = .slice e) (he : T e = some te) (hm : lk bl m = some C)
    (hzl : te.zero.cells.length = te.sz) (hz : Nat.blt 0 te.sz = true) (hCsz : C.sz = te.sz) (hb : C.rows.length * te.bytes ≤ 140737488355328 ∧ C.rows.length ≤ 140737488355328) (hfr : lk bl d = none) (hn : Nat.blt d n0 = true)
    (h : RG P G ops rest Q (St.mk n0 ((d, (True, .slc d)) :: env) ((d, ⟨e, te.sz, C.rows⟩) :: bl))) : RG P G ops (⟨some d, .call ⟨.builtin .append, #[x, y], #[t, t]⟩, ty, pos, after, none⟩ :: rest) Q (St.mk n0 env bl) :=
  RG.eff rfl (EffOp.fresh hfr (E_append_nil hT rfl rfl (blt_lt hn) ht hk he hzl (blt_lt hz) hx hy hm hCsz hb.1 hb.2)) h
theorem S_appendd {t e n d : Nat} {x y : Operand} {ti te : TI} {B : Blk} {rows2 : List (List Cell)} (hx : Ev (St.mk n0 env bl) True x (.slc n)) (hy : Ev (St.mk n0 env bl) True y (.pv (.one (.sl rows2)))) (ht : T t = some ti) (hk : ti.kind = .slice e) (he : T e = some te) (hl : lk bl n = some B)
    (hzl : te.zero.cells.length = te.sz) (hz : Nat.blt 0 te.sz = true) (hE : B.E = e) (hsz : B.sz = te.sz) (hrows : ∀ r ∈ rows2, r.length = te.sz)
    (hb : (B.rows.length + rows2.length) * te.bytes ≤ 140737488355328 ∧ B.rows.length + rows2.length ≤ 140737488355328) (hn : Nat.blt d n0 = true)
    (h : RG P G ops rest Q (St.mk n0 ((d, (True, .slc d)) :: fgt d (fgt n env)) ((d, ⟨e, te.sz, B.rows ++ rows2⟩) :: (n, deadBlk) :: bl))) : RG P G ops (⟨some d, .call ⟨.builtin .append, #[x, y], #[t, t]⟩, ty, pos, after, none⟩ :: rest) Q (St.mk n0 env bl) :=
  RG.eff rfl (E_append_data hT rfl rfl (blt_lt hn) ht hk he hzl (blt_lt hz) hx hl hE hsz hy hrows hb.1 hb.2) h
end

/-! ### Tables of types -/
theorem TK.ok_struct {P : Program} {t : Nat} {fs : List (Nat × Nat)} (h : ((P.underlying t).bind fun d => match d with | .struct f => some (f.toList.map fun f => (f.offset, f.type)) | _ => none) = some fs) : (TK.struct fs).ok P t := by
  cases hu : P.underlying t with
  | none => rw [hu] at h; cases h
  | some d =>
    rw [hu] at h
    cases d <;> simp at h
    rename_i f
    exact ⟨f, hu, h⟩
theorem TK.ok_func {P : Program} {t : Nat} (h : ((P.underlying t).bind fun d => match d with | .func a b c => some () | _ => none) = some ()) : TK.func.ok P t := by
  cases hu : P.underlying t with
  | none => rw [hu] at h; cases h
  | some d =>
    rw [hu] at h
    cases d <;> simp at h
    exact ⟨_, _, _, hu⟩
theorem TK.ok_iface {P : Program} {t : Nat} (h : ((P.underlying t).bind fun d => match d with | .interface a => some () | _ => none) = some ()) : TK.iface.ok P t := by
  cases hu : P.underlying t with
  | none => rw [hu] at h; cases h
  | some d =>
    rw [hu] at h
    cases d <;> simp at h
    exact ⟨_, hu⟩
theorem TI.ok_mk {P : Program} {t : Nat} {k : TK} {sz bytes : Nat} {zero : PV} {z : Value} (hk : k.ok P t) (h : (P.info? t).map (fun i => (i.size, i.bytes, i.zero)) = some (sz, bytes, some z)) (hz : ∀ Φ, PRel Φ z zero) (hsm : Nat.ble mapTag t = false := by rfl) : TI.ok P t ⟨k, sz, bytes, zero⟩ := by
  refine ⟨hsm, hk, ?_⟩
  cases hi : P.info? t with
  | none => rw [hi] at h; cases h
  | some i =>
    rw [hi] at h
    simp only [Option.map_some, Option.some.injEq, Prod.mk.injEq] at h
    exact ⟨i, rfl, h.1, h.2.1, z, h.2.2, hz⟩
def AllOK (P : Program) : List (Nat × TI) → Prop
  | [] => True
  | (t, ti) :: r => ti.ok P t ∧ AllOK P r
theorem AllOK.nil {P : Program} : AllOK P [] := trivial
theorem AllOK.cons {P : Program} {t : Nat} {ti : TI} {r : List (Nat × TI)} (h : ti.ok P t) (h' : AllOK P r) : AllOK P ((t, ti) :: r) := ⟨h, h'⟩
theorem TOK.of_list {P : Program} : ∀ {l : List (Nat × TI)}, AllOK P l → TOK P (lk l)
  | [], _, t, ti, h => by simp [lk] at h
  | (s, ts) :: r, hs, t, ti, h => by
    rw [lk_cons] at h
    split at h
    · rename_i e; subst e
      obtain rfl := Option.some.inj h
      exact hs.1
    · exact TOK.of_list hs.2 t ti h

/-! ### Rows of encoded lists -/
theorem getRow {α : Type} [Inhabited α] {l : List α} {f : α → List Cell} {i : Int} (h : 0 ≤ i ∧ i < l.length) : 0 ≤ i ∧ (l.map f)[i.toNat]? = some (f (l.getD i.toNat default)) := by
  refine ⟨h.1, ?_⟩
  have hlt : i.toNat < l.length := by omega
  simp [List.getElem?_eq_getElem hlt, List.getD]

/-! ### The restriction of a state to what is alive -/
def Pick (A : St) : List Nat → List (Nat × (Prop × AV)) → Prop
  | [], [] => True
  | t :: ts, (s, e) :: r => (t = s ∧ lk A.env t = some e) ∧ Pick A ts r
  | _, _ => False
theorem Pick.nil {A : St} : Pick A [] [] := trivial
theorem Pick.cons {A : St} {t : Nat} {e : Prop × AV} {ts : List Nat} {r : List (Nat × (Prop × AV))} (h : lk A.env t = some e) (h' : Pick A ts r) : Pick A (t :: ts) ((t, e) :: r) := ⟨⟨rfl, h⟩, h'⟩

/-- The entries that a loop turns: values up to equality. -/
def SubF (A : St) (bl' : List (Nat × Blk)) : List (Nat × (Prop × AV)) → Prop
  | [] => True
  | (t, (q, v)) :: r => (∃ v', lk A.env t = some (q, v') ∧ v' = v ∧ NameOK A.blks bl' v) ∧ SubF A bl' r
def SubG (A : St) : List (Nat × Blk) → Prop
  | [] => True
  | (n, B) :: r => (∃ B', lk A.blks n = some B' ∧ B' = B) ∧ SubG A r
theorem SubF.nil {A : St} {bl' : List (Nat × Blk)} : SubF A bl' [] := trivial
theorem SubF.cons {A : St} {bl' : List (Nat × Blk)} {t : Nat} {q : Prop} {v v' : AV} {r : List (Nat × (Prop × AV))} (h : lk A.env t = some (q, v')) (hv : v' = v) (hn : NameOK A.blks bl' v) (hr : SubF A bl' r) : SubF A bl' ((t, (q, v)) :: r) := ⟨⟨v', h, hv, hn⟩, hr⟩
theorem SubG.nil {A : St} : SubG A [] := trivial
theorem SubG.cons {A : St} {n : Nat} {B B' : Blk} {r : List (Nat × Blk)} (h : lk A.blks n = some B') (hv : B' = B) (hr : SubG A r) : SubG A ((n, B) :: r) := ⟨⟨B', h, hv⟩, hr⟩
theorem SubF.toE {A : St} {bl' : List (Nat × Blk)} : ∀ {l : List (Nat × (Prop × AV))}, SubF A bl' l → SubE A bl' l
  | [], _ => trivial
  | (t, (q, v)) :: r, ⟨⟨v', h1, h2, h3⟩, h4⟩ => ⟨⟨by rw [h1, h2], h3⟩, SubF.toE h4⟩
theorem SubG.toB {A : St} : ∀ {l : List (Nat × Blk)}, SubG A l → SubB A l
  | [], _ => trivial
  | (n, B) :: r, ⟨⟨B', h1, h2⟩, h4⟩ => ⟨by rw [h1, h2], SubG.toB h4⟩
theorem SubE.append {A : St} {bl' : List (Nat × Blk)} : ∀ {l m : List (Nat × (Prop × AV))}, SubE A bl' l → SubE A bl' m → SubE A bl' (l ++ m)
  | [], _, _, h => h
  | (t, (q, v)) :: r, _, h, h' => ⟨h.1, SubE.append h.2 h'⟩
def mkSt (n : Nat) (f E : List (Nat × (Prop × AV))) (bl : List (Nat × Blk)) : St := ⟨n, f ++ E, bl⟩
theorem Le.mkSt {A : St} {n : Nat} {f E : List (Nat × (Prop × AV))} {bl : List (Nat × Blk)} (hn : n = A.n) (hf : SubF A bl f) (hE : SubE A bl E) (hb : SubG A bl) : Le A (Lf.mkSt n f E bl) :=
  Le.mk hn (SubE.append hf.toE hE) hb.toB
theorem SubE.of_pick {A : St} {bl' : List (Nat × Blk)} : ∀ {ts : List Nat} {E : List (Nat × (Prop × AV))}, Pick A ts E → (∀ e ∈ E, NameOK A.blks bl' e.2.2) → SubE A bl' E
  | [], [], _, _ => trivial
  | t :: ts, (s, (q, v)) :: r, ⟨⟨hts, h1⟩, h2⟩, hn => ⟨⟨hts ▸ h1, hn _ (List.mem_cons_self ..)⟩, SubE.of_pick h2 (fun e he => hn e (List.mem_cons_of_mem _ he))⟩

/-- A LOOP, by what it turns (f), what it keeps (E), its own blocks (bl), an invariant and a measure. -/
theorem W.loopP {P : Program} {G : Ghost} {A : St} {Q : Exit → St → Prop} {c : Code} {σ : Type _} (n : Nat) (keep : List Nat) (inv : σ → Prop) (f : σ → List (Nat × (Prop × AV))) (bl : σ → List (Nat × Blk)) (μ : σ → Nat) (s0 : σ) {E : List (Nat × (Prop × AV))} (hp : Pick A keep E)
    (h0 : inv s0 ∧ Le A (mkSt n (f s0) E (bl s0))) (round : ∀ s, inv s → W P G c (Then (fun A' => ∃ s', inv s' ∧ Le A' (mkSt n (f s') E (bl s')) ∧ μ s' < μ s) Q) (mkSt n (f s) E (bl s))) : W P G (.loop c) Q A := by
  refine W.loop (σ := { s : σ // inv s }) (fun s => mkSt n (f s.1) E (bl s.1)) (fun s => μ s.1) ⟨s0, h0.1⟩ h0.2 fun s => ?_
  refine W.mono (round s.1 s.2) fun e A' h => ?_
  cases e with
  | normal => obtain ⟨s', h1, h2, h3⟩ := h; exact ⟨⟨s', h1⟩, h2, h3⟩
  | exit id => exact h
  | goto id => exact h
  | ret => exact h
  | panic c => exact h
  | outgrown => exact h
/-- Ways that meet again: the same words. -/
theorem W.cutP {P : Program} {G : Ghost} {A : St} {Q : Exit → St → Prop} {x y : Code} {σ : Type _} (n : Nat) (keep : List Nat) (inv : σ → Prop) (f : σ → List (Nat × (Prop × AV))) (bl : σ → List (Nat × Blk)) {E : List (Nat × (Prop × AV))} (hp : Pick A keep E)
    (hx : W P G x (Then (fun A' => ∃ s', inv s' ∧ Le A' (mkSt n (f s') E (bl s'))) Q) A) (hy : ∀ s, inv s → W P G y Q (mkSt n (f s) E (bl s))) : W P G (.seq x y) Q A := by
  refine W.cut (σ := { s : σ // inv s }) (fun s => mkSt n (f s.1) E (bl s.1)) (W.mono hx fun e A' h => ?_) fun s => hy s.1 s.2
  cases e with
  | normal => obtain ⟨s', h1, h2⟩ := h; exact ⟨⟨s', h1⟩, h2⟩
  | exit id => exact h
  | goto id => exact h
  | ret => exact h
  | panic c => exact h
  | outgrown => exact h

abbrev vI (n : Int) : Prop × AV := (True, .pv (.one (.int .i64 n)))
abbrev vB (b : Bool) : Prop × AV := (True, .pv (.one (.bool b)))
abbrev vC (c : Cell) : Prop × AV := (True, .pv (.one c))
abbrev vP (p : PV) : Prop × AV := (True, .pv p)
abbrev vS (n : Nat) : Prop × AV := (True, .slc n)
abbrev cI (n : Int) : PV := .one (.int .i64 n)
abbrev cB (b : Bool) : PV := .one (.bool b)

def App : List (Nat × (Prop × AV)) → List (Nat × (Prop × AV)) → List (Nat × (Prop × AV)) → Prop := fun f E env => env = f ++ E
theorem App.nil {E : List (Nat × (Prop × AV))} : App [] E E := rfl
theorem App.cons {e : Nat × (Prop × AV)} {f E env : List (Nat × (Prop × AV))} (h : App f E env) : App (e :: f) E (e :: env) := by unfold App at *; rw [h]; rfl
theorem W.norm {P : Program} {G : Ghost} {Q : Exit → St → Prop} {c : Code} {n : Nat} {f E env : List (Nat × (Prop × AV))} {bl : List (Nat × Blk)} (h : App f E env) (hw : W P G c Q (St.mk n env bl)) : W P G c Q (mkSt n f E bl) := by
  unfold App at h; subst h; exact hw
/-- An element of a list. -/
def nth {α : Type} [Inhabited α] (l : List α) (k : Nat) : α := l.getD k default
theorem getRowN {α : Type} [Inhabited α] {l : List α} {f : α → List Cell} {k : Nat} (h : k < l.length) : 0 ≤ (k : Int) ∧ (l.map f)[(k : Int).toNat]? = some (f (nth l k)) := by
  refine ⟨Int.natCast_nonneg k, ?_⟩
  simp [List.getElem?_eq_getElem h, nth, List.getD]
theorem getRowI {α : Type} [Inhabited α] {l : List α} {f : α → List Cell} {i : Int} (h : 0 ≤ i ∧ i < l.length) : 0 ≤ i ∧ (l.map f)[i.toNat]? = some (f (nth l i.toNat)) := getRow h
theorem drop_nth {α : Type} [Inhabited α] {l : List α} {k : Nat} (h : k < l.length) : l.drop k = nth l k :: l.drop (k + 1) := by
  rw [List.drop_eq_getElem_cons h]; simp [nth, List.getD, List.getElem?_eq_getElem h]
def InitE (args : List PV) (k : Nat) (env : List (Nat × (Prop × AV))) : Prop := env = initEnv args k
theorem InitE.nil {k : Nat} : InitE [] k [] := rfl
theorem InitE.cons {q : PV} {qs : List PV} {k : Nat} {env : List (Nat × (Prop × AV))} (h : InitE qs (k + 1) env) : InitE (q :: qs) k ((k, (True, .pv q)) :: env) := by unfold InitE at *; rw [h]; rfl
theorem W.init {P : Program} {G : Ghost} {Q : Exit → St → Prop} {c : Code} {n : Nat} {args : List PV} {env : List (Nat × (Prop × AV))} (h : InitE args 0 env) (hw : W P G c Q (St.mk n env [])) : W P G c Q (St.init n args) := by
  unfold InitE at h; subst h; exact hw
theorem InitE.c0 {q : PV} {qs : List PV} {env : List (Nat × (Prop × AV))} (h : InitE qs 1 env) : InitE (q :: qs) 0 ((0, (True, .pv q)) :: env) := InitE.cons h
theorem InitE.c1 {q : PV} {qs : List PV} {env : List (Nat × (Prop × AV))} (h : InitE qs 2 env) : InitE (q :: qs) 1 ((1, (True, .pv q)) :: env) := InitE.cons h
theorem InitE.c2 {q : PV} {qs : List PV} {env : List (Nat × (Prop × AV))} (h : InitE qs 3 env) : InitE (q :: qs) 2 ((2, (True, .pv q)) :: env) := InitE.cons h
theorem InitE.c3 {q : PV} {qs : List PV} {env : List (Nat × (Prop × AV))} (h : InitE qs 4 env) : InitE (q :: qs) 3 ((3, (True, .pv q)) :: env) := InitE.cons h
theorem InitE.c4 {q : PV} {qs : List PV} {env : List (Nat × (Prop × AV))} (h : InitE qs 5 env) : InitE (q :: qs) 4 ((4, (True, .pv q)) :: env) := InitE.cons h
theorem InitE.c5 {q : PV} {qs : List PV} {env : List (Nat × (Prop × AV))} (h : InitE qs 6 env) : InitE (q :: qs) 5 ((5, (True, .pv q)) :: env) := InitE.cons h
theorem InitE.c6 {q : PV} {qs : List PV} {env : List (Nat × (Prop × AV))} (h : InitE qs 7 env) : InitE (q :: qs) 6 ((6, (True, .pv q)) :: env) := InitE.cons h
theorem InitE.c7 {q : PV} {qs : List PV} {env : List (Nat × (Prop × AV))} (h : InitE qs 8 env) : InitE (q :: qs) 7 ((7, (True, .pv q)) :: env) := InitE.cons h
theorem InitE.c8 {q : PV} {qs : List PV} {env : List (Nat × (Prop × AV))} (h : InitE qs 9 env) : InitE (q :: qs) 8 ((8, (True, .pv q)) :: env) := InitE.cons h
theorem InitE.c9 {q : PV} {qs : List PV} {env : List (Nat × (Prop × AV))} (h : InitE qs 10 env) : InitE (q :: qs) 9 ((9, (True, .pv q)) :: env) := InitE.cons h
theorem InitE.c10 {q : PV} {qs : List PV} {env : List (Nat × (Prop × AV))} (h : InitE qs 11 env) : InitE (q :: qs) 10 ((10, (True, .pv q)) :: env) := InitE.cons h
theorem InitE.c11 {q : PV} {qs : List PV} {env : List (Nat × (Prop × AV))} (h : InitE qs 12 env) : InitE (q :: qs) 11 ((11, (True, .pv q)) :: env) := InitE.cons h
theorem InitE.c12 {q : PV} {qs : List PV} {env : List (Nat × (Prop × AV))} (h : InitE qs 13 env) : InitE (q :: qs) 12 ((12, (True, .pv q)) :: env) := InitE.cons h
theorem InitE.c13 {q : PV} {qs : List PV} {env : List (Nat × (Prop × AV))} (h : InitE qs 14 env) : InitE (q :: qs) 13 ((13, (True, .pv q)) :: env) := InitE.cons h
theorem SubE.nil {A : St} {bl : List (Nat × Blk)} : SubE A bl [] := trivial
theorem SubE.cons {A : St} {bl : List (Nat × Blk)} {t : Nat} {q : Prop} {v : AV} {r : List (Nat × (Prop × AV))} (h : lk A.env t = some (q, v)) (hn : NameOK A.blks bl v) (hr : SubE A bl r) : SubE A bl ((t, (q, v)) :: r) := ⟨⟨h, hn⟩, hr⟩
theorem ResL.nil {A : St} : ResL A [] [] := trivial
theorem ResL.cons {A : St} {t : Nat} {ts : List Nat} {q r : PV} {qs : List PV} {av : AV} (h : lk A.env t = some (True, av)) (hv : toPV A.blks av = some r) (hs : PSub r q) (ht : ResL A ts qs) : ResL A (t :: ts) (q :: qs) := ⟨⟨av, r, h, hv, hs⟩, ht⟩
end Lf
