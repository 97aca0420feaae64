/-
  More operations: addresses, numbers, strings, lengths, results; calls by their contracts; a function's entry and exit.
-/
import Derived.Test.YtipghibmgfhmpaaGreatDoorLfOps
set_option linter.unusedVariables false
set_option linter.unusedSimpArgs false
namespace Lf
open Go Go.RowKit

/-- What the integer operators give. -/
def binI : BinOp → IntKind → Int → Int → Option Cell
  | .add, k, a, b => some (.int k (k.wrap (a + b)))
  | .sub, k, a, b => some (.int k (k.wrap (a - b)))
  | .mul, k, a, b => some (.int k (k.wrap (a * b)))
  | .lss, _, a, b => some (.bool (decide (a < b)))
  | .leq, _, a, b => some (.bool (decide (a ≤ b)))
  | .gtr, _, a, b => some (.bool (decide (a > b)))
  | .geq, _, a, b => some (.bool (decide (a ≥ b)))
  | .eql, _, a, b => some (.bool (decide (a = b)))
  | .neq, _, a, b => some (.bool (!decide (a = b)))
  | .and, k, a, b => some (.int k (bits .and k a b))
  | .or, k, a, b => some (.int k (bits .or k a b))
  | .xor, k, a, b => some (.int k (bits .xor k a b))
  | .andNot, k, a, b => some (.int k (bits .andNot k a b))
  | _, _, _, _ => none
def binS : BinOp → List UInt8 → List UInt8 → Option Cell
  | .eql, a, b => some (.bool (decide (a = b)))
  | .neq, a, b => some (.bool (!decide (a = b)))
  | .lss, a, b => some (.bool (Op.bytesLess a b))
  | .leq, a, b => some (.bool (Op.bytesLess a b || decide (a = b)))
  | .gtr, a, b => some (.bool (!(Op.bytesLess a b || decide (a = b))))
  | .geq, a, b => some (.bool (!Op.bytesLess a b))
  | _, _, _ => none
def binB : BinOp → Bool → Bool → Option Cell
  | .eql, a, b => some (.bool (a == b))
  | .neq, a, b => some (.bool (!(a == b)))
  | _, _, _ => none

def AV.flat : AV → Bool
  | .pv p => p.flat
  | .tup l => l.all PV.flat
  | _ => false

def toPV (bl : List (Nat × Blk)) : AV → Option PV
  | .pv p => some p
  | .slc n => (lk bl n).map fun B => .one (.sl B.rows)
  | .addr n i off => (lk bl n).bind fun B => (B.rows[i]?).map fun r => .one (.ptr (r.drop off))
  | .tup _ | .top | .mp _ | .itr _ _ | .pin _ _ _ _ => none

def FnOK (P : Program) (f : FuncId) : Prop := ∃ fn, P.funcs[f]? = some fn ∧ (fn.name == "runtime.NumGoroutine") = false ∧ fn.body.isNone = false

def ArgsRel (Φ : Frz) (vs : Array Value) (args : List PV) : Prop := vs.size = args.length ∧ ∀ (j : Nat) (p : PV), args[j]? = some p → ∃ v, vs[j]? = some v ∧ PRel Φ v p

/-- THE CONTRACT OF A FUNCTION: called with such arguments it returns r; nothing that was there has turned. -/
structure ACalls (P : Program) (f : FuncId) (args : List PV) (r : AV) : Prop where
  fn : FnOK P f
  calls : ∀ Φ w vs, Fits Φ w → ArgsRel Φ vs args → Calls P f vs w (fun e w' => ∃ v Φ', e = .returned v ∧ AVRel Φ' (fun _ => none) [] v r ∧ Φ.le Φ' ∧ (∀ b, b < w.heap.size → Φ' b = Φ b) ∧ Fits Φ' w' ∧ Below w.heap.size w w')

section
variable {P : Program} {G : Ghost} {A : St} {T : TT} {o : Oper} {p : Prop}

theorem exec_val {ρ : Operand → Value} {m : Sem Value} {w w' : World} {v : Value} (ho : execOp ρ o = (do pure (.value (← m)))) (h : m.run P w = .ok v w') : (execOp ρ o).run P w = .ok (.value v) w' := by
  rw [ho]; simp [h]

theorem bin_run {Φ : Frz} {ρ : Operand → Value} {op : BinOp} {xt yt : Nat} {x y : Operand} {k : IntKind} {m n : Int} {c : Cell} (ho : o.op = .binOp op xt x y yt) (h1 : ρ x = .int k m) (h2 : ρ y = .int k n)
    (hr : binI op k m n = some c) (w : World) : ∃ u, (execOp ρ o).run P w = .ok (.value u) w ∧ Rel Φ u c := by
  have he : ∀ op, eqGuard op xt x y (.int k m) (.int k n) = pure () := fun op => by cases op <;> rfl
  have hx : (execOp ρ o).run P w = ((binOp op xt (.int k m) (.int k n)).run P w).andThen fun v w => .ok (.value v) w := by
    simp only [execOp, ho, h1, h2, he, pure_bind]; simp
  cases op <;> simp only [binI, Option.some.injEq, reduceCtorEq] at hr <;> subst hr <;> rw [hx]
  · exact ⟨_, by simp [binOp, Op.intArith], Rel.int _ _⟩
  · exact ⟨_, by simp [binOp, Op.intArith], Rel.int _ _⟩
  · exact ⟨_, by simp [binOp, Op.intArith], Rel.int _ _⟩
  · exact ⟨.int k (bits .and k m n), by simp [binOp, Op.intBits]; rfl, Rel.int _ _⟩
  · exact ⟨.int k (bits .or k m n), by simp [binOp, Op.intBits]; rfl, Rel.int _ _⟩
  · exact ⟨.int k (bits .xor k m n), by simp [binOp, Op.intBits]; rfl, Rel.int _ _⟩
  · exact ⟨.int k (bits .andNot k m n), by rw [binOp_andNot, intBits_andNot]; simp, Rel.int _ _⟩
  · exact ⟨.bool (decide (m = n)), by simp [binOp, Op.intCmp]; rfl, Rel.bool _⟩
  · exact ⟨.bool (!decide (m = n)), by simp [binOp, Op.intCmp]; rfl, Rel.bool _⟩
  · exact ⟨.bool (decide (m < n)), by simp [binOp, Op.intCmp], Rel.bool _⟩
  · exact ⟨.bool (decide (m ≤ n)), by simp [binOp, Op.intCmp], Rel.bool _⟩
  · exact ⟨.bool (decide (m > n)), by simp [binOp, Op.intCmp], Rel.bool _⟩
  · exact ⟨.bool (decide (m ≥ n)), by simp [binOp, Op.intCmp], Rel.bool _⟩
theorem P_bin {op : BinOp} {xt yt : Nat} {x y : Operand} {k : IntKind} {m n : Int} {c : Cell} (ho : o.op = .binOp op xt x y yt) (hx : Ev A p x (.pv (.one (.int k m)))) (hy : Ev A p y (.pv (.one (.int k n))))
    (hr : binI op k m n = some c) : PureOp P G A o p (.pv (.one c)) := PureOp.val fun Φ β a w hs hp =>
  bin_run ho (AVRel.int (hs.ev hx hp)) (AVRel.int (hs.ev hy hp)) hr w

theorem P_quo {xt yt : Nat} {x y : Operand} {k : IntKind} {m n : Int} (ho : o.op = .binOp .quo xt x y yt) (hx : Ev A p x (.pv (.one (.int k m)))) (hy : Ev A p y (.pv (.one (.int k n))))
    (hn : p → n ≠ 0) : PureOp P G A o p (.pv (.one (.int k (k.wrap (m.tdiv n))))) := PureOp.val fun Φ β a w hs hp => by
  have h1 := AVRel.int (hs.ev hx hp)
  have h2 := AVRel.int (hs.ev hy hp)
  exact ⟨.int k (k.wrap (m.tdiv n)), by simp [execOp, ho, h1, h2, binOp, Op.intDiv, hn hp, eqGuard], Rel.int _ _⟩
theorem P_rem {xt yt : Nat} {x y : Operand} {k : IntKind} {m n : Int} (ho : o.op = .binOp .rem xt x y yt) (hx : Ev A p x (.pv (.one (.int k m)))) (hy : Ev A p y (.pv (.one (.int k n))))
    (hn : p → n ≠ 0) : PureOp P G A o p (.pv (.one (.int k (m.tmod n)))) := PureOp.val fun Φ β a w hs hp => by
  have h1 := AVRel.int (hs.ev hx hp)
  have h2 := AVRel.int (hs.ev hy hp)
  exact ⟨.int k (m.tmod n), by simp [execOp, ho, h1, h2, binOp, Op.intDiv, hn hp, eqGuard], Rel.int _ _⟩

theorem P_shl {xt yt : Nat} {x y : Operand} {k yk : IntKind} {m n : Int} (ho : o.op = .binOp .shl xt x y yt) (hx : Ev A p x (.pv (.one (.int k m)))) (hy : Ev A p y (.pv (.one (.int yk n))))
    (hn : p → 0 ≤ n) : PureOp P G A o p (.pv (.one (.int k (k.wrap (m * 2 ^ min n.toNat k.bits))))) := PureOp.val fun Φ β a w hs hp => by
  have h1 := AVRel.int (hs.ev hx hp)
  have h2 := AVRel.int (hs.ev hy hp)
  have h3 : ¬ n < 0 := by have := hn hp; omega
  exact ⟨.int k (k.wrap (m * 2 ^ min n.toNat k.bits)), by simp [execOp, ho, h1, h2, binOp, Op.shift, h3, eqGuard], Rel.int _ _⟩
theorem P_shr {xt yt : Nat} {x y : Operand} {k yk : IntKind} {m n : Int} (ho : o.op = .binOp .shr xt x y yt) (hx : Ev A p x (.pv (.one (.int k m)))) (hy : Ev A p y (.pv (.one (.int yk n))))
    (hn : p → 0 ≤ n) : PureOp P G A o p (.pv (.one (.int k (m.fdiv (2 ^ min n.toNat k.bits))))) := PureOp.val fun Φ β a w hs hp => by
  have h1 := AVRel.int (hs.ev hx hp)
  have h2 := AVRel.int (hs.ev hy hp)
  have h3 : ¬ n < 0 := by have := hn hp; omega
  exact ⟨.int k (m.fdiv (2 ^ min n.toNat k.bits)), by simp [execOp, ho, h1, h2, binOp, Op.shift, h3, eqGuard], Rel.int _ _⟩

theorem P_not {xt : Nat} {x : Operand} {b : Bool} (ho : o.op = .unOp .not xt x) (hx : Ev A p x (.pv (.one (.bool b)))) : PureOp P G A o p (.pv (.one (.bool (!b)))) := PureOp.val fun Φ β a w hs hp =>
  ⟨.bool (!b), by simp [execOp, ho, AVRel.bool (hs.ev hx hp), Op.unary], Rel.bool _⟩
theorem P_neg {xt : Nat} {x : Operand} {k : IntKind} {n : Int} (ho : o.op = .unOp .neg xt x) (hx : Ev A p x (.pv (.one (.int k n)))) : PureOp P G A o p (.pv (.one (.int k (k.wrap (0 - n))))) := PureOp.val fun Φ β a w hs hp =>
  ⟨.int k (k.wrap (0 - n)), by simp [execOp, ho, AVRel.int (hs.ev hx hp), Op.unary, Op.intArith], Rel.int _ _⟩

theorem beq_dec {α : Type _} [BEq α] [LawfulBEq α] [DecidableEq α] (x y : α) : (x == y) = decide (x = y) := by
  rw [Bool.eq_iff_iff, beq_iff_eq, decide_eq_true_iff]
theorem bytes_toList (s : ByteArray) : s.toList = s.data.toList := by simp [ByteArray.toList_eq]

theorem binS_run {Φ : Frz} {ρ : Operand → Value} {op : BinOp} {xt yt : Nat} {x y : Operand} {s t : ByteArray} {c : Cell} (ho : o.op = .binOp op xt x y yt) (h1 : ρ x = .string s) (h2 : ρ y = .string t)
    (hr : binS op s.data.toList t.data.toList = some c) (w : World) : ∃ u, (execOp ρ o).run P w = .ok (.value u) w ∧ Rel Φ u c := by
  have he : ∀ op, eqGuard op xt x y (.string s) (.string t) = pure () := fun op => by cases op <;> rfl
  have hx : (execOp ρ o).run P w = ((Op.stringOp op s t).run P w).andThen fun v w => .ok (.value v) w := by
    have hb : binOp op xt (.string s) (.string t) = Op.stringOp op s t := by cases op <;> rfl
    simp only [execOp, ho, h1, h2, he, pure_bind, hb]; simp
  cases op <;> simp only [binS, Option.some.injEq, reduceCtorEq] at hr <;> subst hr <;> rw [hx] <;> simp only [Op.stringOp, bytes_toList, beq_dec] <;> exact ⟨_, rfl, Rel.bool _⟩
theorem P_binS {op : BinOp} {xt yt : Nat} {x y : Operand} {l m : List UInt8} {c : Cell} (ho : o.op = .binOp op xt x y yt) (hx : Ev A p x (.pv (.one (.str l)))) (hy : Ev A p y (.pv (.one (.str m))))
    (hr : binS op l m = some c) : PureOp P G A o p (.pv (.one c)) := PureOp.val fun Φ β a w hs hp => by
  obtain ⟨s, h1, rfl⟩ := AVRel.str (hs.ev hx hp)
  obtain ⟨t, h2, rfl⟩ := AVRel.str (hs.ev hy hp)
  exact binS_run ho h1 h2 hr w
theorem P_binB {op : BinOp} {xt yt : Nat} {x y : Operand} {l m : Bool} {c : Cell} (ho : o.op = .binOp op xt x y yt) (hx : Ev A p x (.pv (.one (.bool l)))) (hy : Ev A p y (.pv (.one (.bool m))))
    (ht : P.underlying xt = some .bool) (hr : binB op l m = some c) : PureOp P G A o p (.pv (.one c)) := PureOp.val fun Φ β a w hs hp => by
  have h1 := AVRel.bool (hs.ev hx hp)
  have h2 := AVRel.bool (hs.ev hy hp)
  generalize a.eval = ρ at h1 h2
  have he : ∀ op, eqGuard op xt x y (.bool l) (.bool m) = pure () := fun op => by cases op <;> rfl
  have hq : ∀ w, (Op.equal xt (.bool l) (.bool m)).run P w = .ok (l == m) w := fun w => by rw [Op.equal, Op.maxDepth, Op.equalIn]; simp [run_underlying ht]
  cases op <;> simp only [binB, Option.some.injEq, reduceCtorEq] at hr <;> subst hr
  · exact ⟨.bool (l == m), by simp only [execOp, ho, h1, h2, he, pure_bind, binOp]; simp [hq], Rel.bool _⟩
  · exact ⟨.bool (!(l == m)), by simp only [execOp, ho, h1, h2, he, pure_bind, binOp]; simp [hq], Rel.bool _⟩

theorem P_extract {x : Operand} {i : Nat} {l : List PV} {q : PV} (ho : o.op = .extract x i) (hx : Ev A p x (.tup l)) (hi : l[i]? = some q) : PureOp P G A o p (.pv q) := PureOp.val fun Φ β a w hs hp => by
  obtain ⟨arr, h1, h2, h3⟩ := hs.ev hx hp
  obtain ⟨u, h4, h5⟩ := h3 i q hi
  exact ⟨u, by simp [execOp, ho, h1, Instr.extract, h4], h5⟩

variable (hT : TOK P T)
include hT

theorem P_conv_int {src dst : Nat} {x : Operand} {ks kd : IntKind} {n : Int} {ti tj : TI} (ho : o.op = .convert src dst x) (hs0 : T src = some ti) (hk : ti.kind = .int ks) (hd0 : T dst = some tj) (hk' : tj.kind = .int kd)
    (hx : Ev A p x (.pv (.one (.int ks n)))) : PureOp P G A o p (.pv (.one (.int kd (kd.wrap n)))) := PureOp.val fun Φ β a w hs hp => by
  have h1 : P.underlying src = some (.int ks) := by have := (hT _ _ hs0).kind; rw [hk] at this; exact this
  have h2 : P.underlying dst = some (.int kd) := by have := (hT _ _ hd0).kind; rw [hk'] at this; exact this
  exact ⟨.int kd (kd.wrap n), exec_val (m := convert src dst (a.eval x)) (by simp only [execOp, ho]) (by simp [convert, run_underlying h1, run_underlying h2, AVRel.int (hs.ev hx hp), Conv.intToInt]), Rel.int _ _⟩

/-! ### Addresses -/
theorem run_fieldAt {s f fo ft : Nat} {ti tj : TI} {fs : List (Nat × Nat)} (ht : T s = some ti) (hk : ti.kind = .struct fs) (hf : fs[f]? = some (fo, ft)) (hj : T ft = some tj) (hz : tj.sz ≠ 0) (b off : Nat) (w : World) :
    (Instr.fieldAt s (.pointer (some ⟨b, off, none⟩)) f).run P w = .ok (.pointer (some ⟨b, off + fo, none⟩)) w := by
  have h1 := (hT _ _ ht).kind
  rw [hk] at h1
  obtain ⟨fields, hu, hm⟩ := h1
  have h2 : ∃ fl, fields[f]? = some fl ∧ fl.offset = fo ∧ fl.type = ft := by
    rw [← hm] at hf
    simp only [List.getElem?_map, Option.map_eq_some_iff, Prod.mk.injEq, Array.getElem?_toList] at hf
    obtain ⟨fl, a, b, c⟩ := hf
    exact ⟨fl, a, b, c⟩
  obtain ⟨fl, h3, h4, h5⟩ := h2
  subst h4 h5
  simp [Instr.fieldAt, run_underlying hu, h3, Instr.sureAddr, fieldPlace, run_sizeOf hT hj, hz, Addr.add_lit]

theorem P_field_own {s f n i off fo ft : Nat} {x : Operand} {ti tj : TI} {fs : List (Nat × Nat)} (ho : o.op = .fieldAddr s x f) (ht : T s = some ti) (hk : ti.kind = .struct fs) (hf : fs[f]? = some (fo, ft)) (hj : T ft = some tj) (hz : tj.sz ≠ 0)
    (hx : Ev A p x (.addr n i off)) : PureOp P G A o p (.addr n i (off + fo)) := PureOp.val fun Φ β a w hs hp => by
  obtain ⟨b, cap, B, h1, h2, hob, h3⟩ := hs.ev hx hp
  exact ⟨_, exec_val (m := Instr.fieldAt s (a.eval x) f) (by simp only [execOp, ho]) (by rw [h3]; exact run_fieldAt hT ht hk hf hj hz _ _ w), b, cap, B, h1, h2, hob, by rw [Nat.add_assoc]⟩

theorem P_field_ptr {s f fo ft : Nat} {x : Operand} {ti tj : TI} {fs : List (Nat × Nat)} {cs : List Cell} (ho : o.op = .fieldAddr s x f) (ht : T s = some ti) (hk : ti.kind = .struct fs) (hf : fs[f]? = some (fo, ft)) (hj : T ft = some tj) (hz : tj.sz ≠ 0)
    (hx : Ev A p x (.pv (.one (.ptr cs)))) : PureOp P G A o p (.pv (.one (.ptr (cs.drop fo)))) := PureOp.val fun Φ β a w hs hp => by
  have hr : Rel Φ (a.eval x) (.ptr cs) := hs.ev hx hp
  generalize hv : a.eval x = v at hr
  cases hr with
  | ptr b off _ g h1 h2 =>
    refine ⟨_, exec_val (m := Instr.fieldAt s (a.eval x) f) (by simp only [execOp, ho]) (by rw [hv]; exact run_fieldAt hT ht hk hf hj hz _ _ w), ?_⟩
    refine Rel.ptr b (off + fo) _ (fun j => g (fo + j)) (fun j c hj => ?_) (fun j c hj => ?_)
    · rw [List.getElem?_drop] at hj; rw [Nat.add_assoc]; exact h1 _ _ hj
    · rw [List.getElem?_drop] at hj; exact h2 _ _ hj

omit hT in
theorem P_nilCheck_own {n i off : Nat} {x : Operand} (ho : o.op = .nilCheck x) (hx : Ev A p x (.addr n i off)) : PureOp P G A o p (.addr n i off) := PureOp.val fun Φ β a w hs hp => by
  obtain ⟨b, cap, B, h1, h2, hob, h3⟩ := hs.ev hx hp
  exact ⟨_, by simp [execOp, ho, h3], b, cap, B, h1, h2, hob, rfl⟩
omit hT in
theorem P_nilCheck_ptr {cs : List Cell} {x : Operand} (ho : o.op = .nilCheck x) (hx : Ev A p x (.pv (.one (.ptr cs)))) : PureOp P G A o p (.pv (.one (.ptr cs))) := PureOp.val fun Φ β a w hs hp => by
  have hr : Rel Φ (a.eval x) (.ptr cs) := hs.ev hx hp
  generalize hv : a.eval x = v at hr
  have hr' := hr
  cases hr with
  | ptr b off _ g h1 h2 => exact ⟨_, by simp [execOp, ho, hv], hr'⟩

theorem run_indexAt {t e len cap : Nat} {ti te : TI} (ht : T t = some ti) (hk : ti.kind = .slice e) (he : T e = some te) {k : IntKind} {i : Int} (h0 : 0 ≤ i) (h1 : i < len) (b off : Nat) (w : World) :
    (Instr.indexAt t (.slice (some ⟨b, off, none⟩) len cap) (.int k i)).run P w = .ok (.pointer (some ⟨b, off + i.toNat * te.sz, none⟩)) w := by
  have hu : P.underlying t = some (.slice e) := by have := (hT _ _ ht).kind; rw [hk] at this; exact this
  simp [Instr.indexAt, asIntOf, run_underlying hu, h0, h1, run_sizeOf hT he, Addr.add_lit]

theorem P_index_own {t e n : Nat} {x y : Operand} {ti te : TI} {B : Blk} {k : IntKind} {i : Int} (ho : o.op = .indexAddr t x y) (ht : T t = some ti) (hk : ti.kind = .slice e) (he : T e = some te) (hx : Ev A p x (.slc n)) (hy : Ev A p y (.pv (.one (.int k i))))
    (hl : lk A.blks n = some B) (hz : te.sz = B.sz) (hi : p → 0 ≤ i ∧ i < B.rows.length) : PureOp P G A o p (.addr n i.toNat 0) := PureOp.val fun Φ β a w hs hp => by
  obtain ⟨B', h1, hob, h2⟩ := hs.ev hx hp
  obtain rfl : B = B' := by rw [hl] at h1; exact Option.some.inj h1
  have hy' := AVRel.int (hs.ev hy hp)
  rcases h2 with ⟨h2, _⟩ | ⟨b, cap, h2, h3⟩
  · have := hs.vir n B hl h2
    have h4 := hi hp
    rw [this] at h4
    simp at h4
    omega
  · exact ⟨_, exec_val (m := Instr.indexAt t (a.eval x) (a.eval y)) (by simp only [execOp, ho]) (by rw [h3, hy']; exact run_indexAt hT ht hk he (hi hp).1 (hi hp).2 _ _ w), b, cap, B, h2, hl, hob, by rw [hz]; simp⟩

theorem P_index_sl {t e : Nat} {x y : Operand} {ti te : TI} {rows : List (List Cell)} {r : List Cell} {k : IntKind} {i : Int} (ho : o.op = .indexAddr t x y) (ht : T t = some ti) (hk : ti.kind = .slice e) (he : T e = some te)
    (hx : Ev A p x (.pv (.one (.sl rows)))) (hy : Ev A p y (.pv (.one (.int k i)))) (hr : p → 0 ≤ i ∧ rows[i.toNat]? = some r) (hz : p → r.length = te.sz) : PureOp P G A o p (.pv (.one (.ptr r))) := PureOp.val fun Φ β a w hs hp => by
  have hy' := AVRel.int (hs.ev hy hp)
  have hr' : Rel Φ (a.eval x) (.sl rows) := hs.ev hx hp
  obtain ⟨h0, hrow⟩ := hr hp
  have hlt := (List.getElem?_eq_some_iff.1 hrow).1
  generalize hv : a.eval x = v at hr'
  cases hr' with
  | sl0 => simp at hrow
  | slE a cap => simp at hrow
  | sl b off len cap sz _ f hlen hcap hsz hc hrr =>
    have hsz' : sz = te.sz := by rw [← hz hp]; exact (hsz r (List.mem_of_getElem? hrow)).symm
    refine ⟨_, exec_val (m := Instr.indexAt t (a.eval x) (a.eval y)) (by simp only [execOp, ho]) (by rw [hv, hy']; exact run_indexAt hT ht hk he h0 (by omega) _ _ w), ?_⟩
    refine Rel.ptr b _ _ (f i.toNat) (fun j c hj => ?_) (fun j c hj => hrr _ _ _ _ hrow hj)
    have := hc _ _ _ _ hrow hj
    rw [hsz'] at this
    rw [Nat.add_assoc]; exact this

theorem P_index_str {t : Nat} {x y : Operand} {ti : TI} {l : List UInt8} {k : IntKind} {i : Int} {c : UInt8} (ho : o.op = .index t x y) (ht : T t = some ti) (hk : ti.kind = .string)
    (hx : Ev A p x (.pv (.one (.str l)))) (hy : Ev A p y (.pv (.one (.int k i)))) (hr : p → 0 ≤ i ∧ l[i.toNat]? = some c) : PureOp P G A o p (.pv (.one (.int .u8 c.toNat))) := PureOp.val fun Φ β a w hs hp => by
  have hu : P.underlying t = some .string := by have := (hT _ _ ht).kind; rw [hk] at this; exact this
  obtain ⟨s, h1, rfl⟩ := AVRel.str (hs.ev hx hp)
  have hy' := AVRel.int (hs.ev hy hp)
  obtain ⟨h0, hrow⟩ := hr hp
  have h3 : s[i.toNat]? = some c := by
    have hlt := (List.getElem?_eq_some_iff.1 hrow)
    obtain ⟨hl, he⟩ := hlt
    have hl' : i.toNat < s.size := by simpa using hl
    rw [getElem?_pos s i.toNat hl']
    simp only [Option.some.injEq]
    rw [← he]
    rfl
  exact ⟨.int .u8 c.toNat, exec_val (m := Instr.index t (a.eval x) (a.eval y)) (by simp only [execOp, ho]) (by simp [Instr.index, h1, hy', asIntOf, run_underlying hu, h0, h3]), Rel.int _ _⟩

/-! ### Lengths -/
omit hT in
theorem len_run {ρ : Operand → Value} {t : Nat} {x : Operand} (ho : o.op = .call { callee := .builtin .len, args := #[x], argTypes := #[t] }) (w : World) {v : Value} (h : (Builtin.len_ #[t] o.type #[ρ x]).run P w = .ok v w) :
    (execOp ρ o).run P w = .ok (.value v) w := by
  have e : execOp ρ o = (do let d ← resolve ρ { callee := .builtin .len, args := #[x], argTypes := #[t] } o.type; invoke d.target d.args) := by simp only [execOp, ho]
  rw [e]
  have hm : (#[x] : Array Operand).map ρ = #[ρ x] := by simp
  simp only [resolve, pure_bind, invoke]
  show ((do pure (Next.value (← Builtin.len_ #[t] o.type ((#[x] : Array Operand).map ρ))) : Sem Next)).run P w = _
  rw [hm]
  simp [h]
theorem P_len_str {t : Nat} {x : Operand} {ti : TI} {l : List UInt8} (ho : o.op = .call { callee := .builtin .len, args := #[x], argTypes := #[t] }) (ht : T t = some ti) (hk : ti.kind = .string)
    (hx : Ev A p x (.pv (.one (.str l)))) : PureOp P G A o p (.pv (.one (.int .i64 l.length))) := PureOp.val fun Φ β a w hs hp => by
  have hu : P.underlying t = some .string := by have := (hT _ _ ht).kind; rw [hk] at this; exact this
  obtain ⟨s, h1, rfl⟩ := AVRel.str (hs.ev hx hp)
  exact ⟨.int .i64 s.data.toList.length, len_run ho w (by rw [h1]; simp [Builtin.len_, run_underlying hu, goInt]), Rel.int _ _⟩
theorem P_len_sl {t e : Nat} {x : Operand} {ti : TI} {rows : List (List Cell)} (ho : o.op = .call { callee := .builtin .len, args := #[x], argTypes := #[t] }) (ht : T t = some ti) (hk : ti.kind = .slice e)
    (hx : Ev A p x (.pv (.one (.sl rows)))) : PureOp P G A o p (.pv (.one (.int .i64 rows.length))) := PureOp.val fun Φ β a w hs hp => by
  have hu : P.underlying t = some (.slice e) := by have := (hT _ _ ht).kind; rw [hk] at this; exact this
  have hr' : Rel Φ (a.eval x) (.sl rows) := hs.ev hx hp
  generalize hv : a.eval x = v at hr'
  cases hr' with
  | sl0 => exact ⟨.int .i64 0, len_run ho w (by rw [hv]; simp [Builtin.len_, run_underlying hu, goInt]), Rel.int _ _⟩
  | slE a' cap => exact ⟨.int .i64 0, len_run ho w (by rw [hv]; simp [Builtin.len_, run_underlying hu, goInt]), Rel.int _ _⟩
  | sl b off len cap sz _ f hlen hcap hsz hc hrr => exact ⟨.int .i64 len, len_run ho w (by rw [hv]; simp [Builtin.len_, run_underlying hu, goInt]), by rw [hlen]; exact Rel.int _ _⟩
theorem P_len_nil {t e : Nat} {x : Operand} {ti : TI} (ho : o.op = .call { callee := .builtin .len, args := #[x], argTypes := #[t] }) (ht : T t = some ti) (hk : ti.kind = .slice e)
    (hx : Ev A p x (.pv (.one .slnil))) : PureOp P G A o p (.pv (.one (.int .i64 0))) := PureOp.val fun Φ β a w hs hp => by
  have hu : P.underlying t = some (.slice e) := by have := (hT _ _ ht).kind; rw [hk] at this; exact this
  have hr' : Rel Φ (a.eval x) .slnil := hs.ev hx hp
  generalize hv : a.eval x = v at hr'
  cases hr' with
  | slnil => exact ⟨.int .i64 0, len_run ho w (by rw [hv]; simp [Builtin.len_, run_underlying hu, goInt]), Rel.int _ _⟩
theorem P_len_own {t e n : Nat} {x : Operand} {ti : TI} {B : Blk} (ho : o.op = .call { callee := .builtin .len, args := #[x], argTypes := #[t] }) (ht : T t = some ti) (hk : ti.kind = .slice e)
    (hx : Ev A p x (.slc n)) (hl : lk A.blks n = some B) : PureOp P G A o p (.pv (.one (.int .i64 B.rows.length))) := PureOp.val fun Φ β a w hs hp => by
  have hu : P.underlying t = some (.slice e) := by have := (hT _ _ ht).kind; rw [hk] at this; exact this
  obtain ⟨B', h1, hob, h2⟩ := hs.ev hx hp
  obtain rfl : B = B' := by rw [hl] at h1; exact Option.some.inj h1
  rcases h2 with ⟨h2, h3⟩ | ⟨b, cap, h2, h3⟩
  · have := hs.vir n B hl h2
    exact ⟨.int .i64 0, len_run ho w (by rw [h3]; simp [Builtin.len_, run_underlying hu, goInt]), by rw [this]; exact Rel.int _ _⟩
  · exact ⟨.int .i64 B.rows.length, len_run ho w (by rw [h3]; simp [Builtin.len_, run_underlying hu, goInt]), Rel.int _ _⟩
omit hT in
theorem bi_run {ρ : Operand → Value} {o : Oper} {b : Builtin} {xs : List Operand} {ats : Array TypeId} (ho : o.op = .call { callee := .builtin b, args := xs.toArray, argTypes := ats }) (w : World) {v : Value} {m : Sem Value}
    (hb : ∀ cs, builtin b ats o.type cs (xs.map ρ).toArray = (do pure (Next.value (← m)))) (h : m.run P w = .ok v w) : (execOp ρ o).run P w = .ok (.value v) w := by
  have e : execOp ρ o = (do let d ← resolve ρ { callee := .builtin b, args := xs.toArray, argTypes := ats } o.type; invoke d.target d.args) := by simp only [execOp, ho]
  rw [e]
  have hm : xs.toArray.map ρ = (xs.map ρ).toArray := by simp
  simp only [resolve, pure_bind, invoke, hm, hb]
  simp [h]
omit hT in
theorem P_max {x y : Operand} {k : IntKind} {m n : Int} {ats : Array TypeId} (ho : o.op = .call { callee := .builtin .max, args := #[x, y], argTypes := ats }) (hx : Ev A p x (.pv (.one (.int k m)))) (hy : Ev A p y (.pv (.one (.int k n)))) :
    PureOp P G A o p (.pv (.one (.int k (max m n)))) := PureOp.val fun Φ β a w hs hp => by
  have h1 := AVRel.int (hs.ev hx hp)
  have h2 := AVRel.int (hs.ev hy hp)
  refine ⟨.int k (max m n), bi_run (xs := [x, y]) ho w (m := Builtin.max_ ats o.type ([x, y].map a.eval).toArray) (fun _ => rfl) ?_, Rel.int _ _⟩
  have e : (if n > m then n else m) = max m n := by omega
  simp [Builtin.max_, h1, h2, Builtin.max2]; omega
omit hT in
theorem P_min {x y : Operand} {k : IntKind} {m n : Int} {ats : Array TypeId} (ho : o.op = .call { callee := .builtin .min, args := #[x, y], argTypes := ats }) (hx : Ev A p x (.pv (.one (.int k m)))) (hy : Ev A p y (.pv (.one (.int k n)))) :
    PureOp P G A o p (.pv (.one (.int k (min m n)))) := PureOp.val fun Φ β a w hs hp => by
  have h1 := AVRel.int (hs.ev hx hp)
  have h2 := AVRel.int (hs.ev hy hp)
  refine ⟨.int k (min m n), bi_run (xs := [x, y]) ho w (m := Builtin.min_ ats o.type ([x, y].map a.eval).toArray) (fun _ => rfl) ?_, Rel.int _ _⟩
  simp [Builtin.min_, h1, h2, Builtin.min2]; omega
end
end Lf
