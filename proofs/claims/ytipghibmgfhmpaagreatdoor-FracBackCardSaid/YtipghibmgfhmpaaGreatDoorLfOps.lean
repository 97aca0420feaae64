/-
  Regions, and the operations of a region one by one, over abstract states.
-/
import Derived.Test.YtipghibmgfhmpaaGreatDoorLfBase
set_option linter.unusedVariables false
set_option linter.unusedSimpArgs false
namespace Lf
open Go Go.RowKit

section
variable {P : Program} {G : Ghost} {A : St}

/-- What is left of a region. -/
def RG (P : Program) (G : Ghost) (ops : Array Oper) (rest : List Oper) (Q : St → Prop) (A : St) : Prop :=
  ∀ Φ β a w, Sat G Φ β A a w → ∀ Q' : Exit → Act → World → Prop, (∀ A' Φ' β' a' w', Q A' → Sat G Φ' β' A' a' w' → Φ.le Φ' → Q' .normal a' w') → wpList P ops Q' rest a w

theorem W.region {id : Nat} {l : List Oper} {Q : Exit → St → Prop} (h : RG P G l.toArray l (Q .normal) A) : W P G (.region id l.toArray false) Q A :=
  fun Φ β a w hs => wp_region_lit (h Φ β a w hs _ fun A' Φ' β' a' w' q s l => ⟨A', Φ', β', q, s, l⟩)

theorem RG.nil {ops : Array Oper} {Q : St → Prop} (h : Q A) : RG P G ops [] Q A := fun Φ β a w hs Q' hq => wpList_nil (hq A Φ β a w h hs Φ.le_refl)
theorem RG.weaken {ops : Array Oper} {rest : List Oper} {Q : St → Prop} {B : St} (hl : Le A B) (h : RG P G ops rest Q B) : RG P G ops rest Q A := fun Φ β a w hs Q' hq =>
  let ⟨Φ1, β1, hle, hs1⟩ := hl G Φ β a w hs
  h Φ1 β1 a w hs1 Q' fun A' Φ' β' a' w' q s l => hq A' Φ' β' a' w' q s (Frz.le_trans hle l)

/-- An operation is carried out exactly if p holds. -/
def GOk (A : St) (ops : Array Oper) (o : Oper) (p : Prop) : Prop := ∀ G Φ β a w, Sat G Φ β A a w → (Region.wanted o (yielded ops a.tmps) = true ↔ p)
theorem GOk.none {ops : Array Oper} {o : Oper} (h : o.guard = none) : GOk A ops o True := fun G Φ β a w hs => by simp [Region.wanted, h]
theorem getD_undef {a : Act} {t : Nat} {v : Value} (h : a.tmps.getD t undef = v) (hv : v ≠ undef) : a.tmps[t]? = some v := by
  rw [Array.getD_eq_getD_getElem?] at h
  cases hx : a.tmps[t]? with
  | none => rw [hx] at h; exact absurd h.symm hv
  | some u => rw [hx] at h; simp at h; rw [h]
theorem undef_ne_bool (b : Bool) : Value.bool b ≠ undef := by simp [undef]
theorem GOk.if {ops : Array Oper} {o : Oper} {j t : Nat} {want b : Bool} {q : Prop} (h : o.guard = some (j, want)) (hj : (ops[j]?).bind (·.dst) = some t)
    (ht : lk A.env t = some (q, .pv (.one (.bool b)))) : GOk A ops o (q ∧ b = want) := fun G Φ β a w hs => by
  have he := hs.env t q _ ht
  by_cases hq : q
  · have hv := getD_undef (AVRel.bool (he.1 hq)) (undef_ne_bool b)
    simp [Region.wanted, h, yielded, hj, hv, hq]
  · have hv : yielded ops a.tmps j = Option.none := by
      unfold yielded
      rw [hj]
      have hu := he.2 hq
      rw [Array.getD_eq_getD_getElem?] at hu
      simp only [Option.bind_some]
      cases hx : a.tmps[t]? with
      | none => rfl
      | some u =>
        rw [hx] at hu
        simp at hu
        subst hu
        rfl
    simp [Region.wanted, h, hv, hq]
theorem GOk.ifT {ops : Array Oper} {o : Oper} {j t : Nat} {want b : Bool} (h : o.guard = some (j, want)) (hj : (ops[j]?).bind (·.dst) = some t)
    (ht : lk A.env t = some (True, .pv (.one (.bool b)))) : GOk A ops o (b = want) := fun G Φ β a w hs => by
  rw [GOk.if h hj ht G Φ β a w hs]; simp

/-- An operation that only makes a value (and perhaps new memory that nobody writes). -/
def PureOp (P : Program) (G : Ghost) (A : St) (o : Oper) (p : Prop) (v : AV) : Prop :=
  ∀ Φ β a w, Sat G Φ β A a w → p → o.wp P a w (fun a' w' => ∃ u Φ', a' = a.put o.dst u ∧ AVRel Φ' β A.blks u v ∧ Φ.le Φ' ∧ (∀ b, b < w.heap.size → Φ' b = Φ b) ∧ Fits Φ' w' ∧ Below w.heap.size w w') (fun _ _ _ => False)

theorem PureOp.val {o : Oper} {p : Prop} {v : AV} (h : ∀ Φ β a w, Sat G Φ β A a w → p → ∃ u, (execOp a.eval o).run P w = .ok (.value u) w ∧ AVRel Φ β A.blks u v) : PureOp P G A o p v := fun Φ β a w hs hp => by
  obtain ⟨u, hr, hv⟩ := h Φ β a w hs hp
  unfold Oper.wp
  rw [hr]
  exact ⟨u, Φ, rfl, hv, Φ.le_refl, fun _ _ => rfl, hs.fits, Below.refl _ _⟩

theorem Oper.wp_mono' {o : Oper} {a : Act} {w : World} {K K' : Act → World → Prop} {Q Q' : Exit → Act → World → Prop} (h : o.wp P a w K Q) (hk : ∀ a w, K a w → K' a w) (hq : ∀ e a w, Q e a w → Q' e a w) : o.wp P a w K' Q' := by
  unfold Oper.wp at *
  generalize (execOp a.eval o).run P w = r at *
  cases r with
  | ok n w' =>
    cases n <;> simp only [Oper.upon] at h ⊢ <;>
      first
        | exact hk _ _ h
        | exact Calls.mono h (fun e w'' he => by
            cases e <;> first
              | exact hk _ _ he
              | exact hq _ _ _ he
              | (obtain ⟨a0, w0, h0⟩ := he; exact ⟨a0, w0, hq _ _ _ h0⟩))
        | exact Rows.mono h (fun _ _ he => hk _ _ he)
  | halt x w' => cases x <;> simp only [Oper.upon] at h ⊢ <;> exact hq _ _ _ h

theorem BlkRel.lt {Φ : Frz} {w : World} {b cap : Nat} {B : Blk} (h : BlkRel Φ w b cap B) : b < w.heap.size := by
  obtain ⟨o, h1⟩ := h.ex
  exact (Array.getElem?_eq_some_iff.1 h1).1
theorem blkRel_below {Φ Φ' : Frz} {w w' : World} {b cap : Nat} {B : Blk} (hle : Φ.le Φ') (hb : Below w.heap.size w w') (h : BlkRel Φ w b cap B) : BlkRel Φ' w' b cap B := h.keep hle (hb.block b h.lt)

theorem Kept.below {w w' : World} (h : Kept G w) (hb : Below w.heap.size w w') : Kept G w' :=
  ⟨hb.os.trans h.os, hb.tape.trans h.tape, hb.output.trans h.output, Nat.le_trans h.size hb.size, fun b hk => (hb.block b (Nat.lt_of_lt_of_le (G.lt b hk) h.size)).trans (h.block b hk)⟩

theorem put_getD {a : Act} {d t : Nat} {u : Value} (hd : d < a.tmps.size) : (a.put (some d) u).tmps.getD t undef = if d = t then u else a.tmps.getD t undef := by
  simp only [Act.put, Array.getD_eq_getD_getElem?]
  by_cases h : d = t
  · subst h; simp [hd]
  · simp [h, Array.getElem?_setIfInBounds_ne h]

theorem Sat.set {Φ Φ' : Frz} {β : Own} {a : Act} {w w' : World} (hs : Sat G Φ β A a w) (hle : Φ.le Φ') (heq : ∀ b, b < w.heap.size → Φ' b = Φ b) (hf : Fits Φ' w') (hb : Below w.heap.size w w')
    {d : Nat} (hd : d < A.n) {q : Prop} {v : AV} {u : Value} (hv : q → AVRel Φ' β A.blks u v) (hn : ¬ q → u = undef) : Sat G Φ' β (A.set d q v) (a.put (some d) u) w' where
  kept := hs.kept.below hb
  fits := hf
  old := fun b hk => (heq b (Nat.lt_of_lt_of_le (G.lt b hk) hs.kept.size)).trans (hs.old b hk)
  siz := by simpa [Act.put, St.set] using hs.siz
  dfr := hs.dfr
  env := fun t q' v' h => by
    have hd' : d < a.tmps.size := Nat.lt_of_lt_of_le hd hs.siz
    rw [put_getD hd']
    simp only [St.set, lk_cons] at h
    by_cases e : d = t
    · rw [if_pos e] at h ⊢
      simp only [Option.some.injEq, Prod.mk.injEq] at h
      obtain ⟨rfl, rfl⟩ := h
      exact ⟨hv, hn⟩
    · rw [if_neg e] at h ⊢
      exact ⟨fun hq => ((hs.env t q' v' h).1 hq).mono hle, (hs.env t q' v' h).2⟩
  blk := fun n B b cap h1 h2 => by
    obtain ⟨h3, h4, h5⟩ := hs.blk n B b cap h1 h2
    exact ⟨blkRel_below hle hb h3, h4, by rw [heq b h3.lt]; exact h5⟩
  vir := hs.vir
  inj := hs.inj

theorem RG.pure {ops : Array Oper} {o : Oper} {rest : List Oper} {Q : St → Prop} {p : Prop} {v : AV} {d : Nat} (hg : GOk A ops o p) (hp : PureOp P G A o p v) (hd : o.dst = some d) (hn : d < A.n)
    (h : RG P G ops rest Q (A.set d p v)) : RG P G ops (o :: rest) Q A := fun Φ β a w hs Q' hq => by
  unfold wpList
  have hw := hg G Φ β a w hs
  by_cases hpp : p
  · rw [if_pos (hw.2 hpp)]
    refine .inl (Oper.wp_mono' (hp Φ β a w hs hpp) (fun a' w' ⟨u, Φ', ha, hv, hle, heq, hf, hb⟩ => ?_) (fun _ _ _ h => h.elim))
    subst ha
    rw [hd]
    exact h Φ' β _ w' (hs.set hle heq hf hb hn (fun _ => hv) (fun hx => (hx hpp).elim)) Q' fun A1 Φ1 β1 a1 w1 q s l => hq A1 Φ1 β1 a1 w1 q s (Frz.le_trans hle l)
  · rw [if_neg (fun hx => hpp (hw.1 hx)), hd]
    exact h Φ β _ w (hs.set Φ.le_refl (fun _ _ => rfl) hs.fits (Below.refl _ _) hn (fun hx => (hpp hx).elim) (fun _ => rfl)) Q' hq

/-- An operation that turns blocks of the call's own. -/
def EffOp (P : Program) (G : Ghost) (A : St) (o : Oper) (A' : St) : Prop :=
  ∀ Φ β a w, Sat G Φ β A a w → o.wp P a w (fun a' w' => ∃ Φ' β', Sat G Φ' β' A' a' w' ∧ Φ.le Φ') (fun _ _ _ => False)

theorem RG.eff {ops : Array Oper} {o : Oper} {rest : List Oper} {Q : St → Prop} {A' : St} (hg : o.guard = none) (hp : EffOp P G A o A') (h : RG P G ops rest Q A') : RG P G ops (o :: rest) Q A := fun Φ β a w hs Q' hq => by
  refine wpList_plain hg fun K hK => Oper.wp_mono' (hp Φ β a w hs) (fun a' w' ⟨Φ', β', hs', hle⟩ => hK _ _ ?_) (fun _ _ _ h => h.elim)
  exact h Φ' β' a' w' hs' Q' fun A1 Φ1 β1 a1 w1 q s l => hq A1 Φ1 β1 a1 w1 q s (Frz.le_trans hle l)

end

/-! ### Types -/
inductive TK where
  | int (k : IntKind) | bool | string | slice (e : Nat) | struct (fs : List (Nat × Nat)) | array (n e : Nat) | ptr (e : Nat) | map (k e : Nat) | func | iface | other
structure TI where
  kind : TK
  sz : Nat
  bytes : Nat
  zero : PV

def TK.ok (P : Program) (t : Nat) : TK → Prop
  | .int k => P.underlying t = some (.int k)
  | .bool => P.underlying t = some .bool
  | .string => P.underlying t = some .string
  | .slice e => P.underlying t = some (.slice e)
  | .struct fs => ∃ fields, P.underlying t = some (.struct fields) ∧ fields.toList.map (fun f => (f.offset, f.type)) = fs
  | .array n e => P.underlying t = some (.array n e)
  | .ptr e => P.underlying t = some (.pointer e)
  | .map k e => P.underlying t = some (.map k e)
  | .func => ∃ a b c, P.underlying t = some (.func a b c)
  | .iface => ∃ ms, P.underlying t = some (.interface ms)
  | .other => True
def TK.isAgg : TK → Option Bool
  | .struct _ | .array .. => some true
  | .other => none
  | _ => some false
structure TI.ok (P : Program) (t : Nat) (ti : TI) : Prop where
  small : Nat.ble mapTag t = false
  kind : ti.kind.ok P t
  info : ∃ i, P.info? t = some i ∧ i.size = ti.sz ∧ i.bytes = ti.bytes ∧ ∃ z, i.zero = some z ∧ ∀ Φ, PRel Φ z ti.zero
abbrev TT := Nat → Option TI
def TOK (P : Program) (T : TT) : Prop := ∀ t ti, T t = some ti → ti.ok P t

section
variable {P : Program} {G : Ghost} {A : St} {T : TT} (hT : TOK P T)
include hT

theorem run_isAgg {t : Nat} {ti : TI} {b : Bool} (h : T t = some ti) (hb : ti.kind.isAgg = some b) (w : World) : (isAgg t).run P w = .ok b w := by
  have hk := (hT t ti h).kind
  unfold isAgg
  rcases ti with ⟨k, sz, bytes, z⟩
  cases k <;> simp only [TK.isAgg, Option.some.injEq, reduceCtorEq] at hb <;> simp only [TK.ok] at hk <;>
    first
      | (simp [run_underlying hk, hb]; done)
      | (obtain ⟨x, hx, _⟩ := hk; simp [run_underlying hx, hb]; done)
      | (obtain ⟨x, y, z, hx⟩ := hk; simp [run_underlying hx, hb]; done)
      | (obtain ⟨x, hx⟩ := hk; simp [run_underlying hx, hb]; done)

theorem run_sizeOf {t : Nat} {ti : TI} (h : T t = some ti) (w : World) : (Go.sizeOf t).run P w = .ok ti.sz w := by
  obtain ⟨i, hi, hs, _⟩ := (hT t ti h).info
  simp [Go.sizeOf, typeInfo, hi, hs]

theorem run_loadAt_one {t : Nat} {ti : TI} (h : T t = some ti) (hb : ti.kind.isAgg = some false) {w : World} {ad : Addr} {v : Value} (hv : w.cell? ad = some v) :
    (Instr.loadAt t (.pointer (some ad))).run P w = .ok v w := by
  simp [Instr.loadAt, Instr.sureAddr, loadVar, run_isAgg hT h hb, hv]

theorem run_loadAt_agg {t : Nat} {ti : TI} (h : T t = some ti) (hb : ti.kind.isAgg = some true) {w : World} {b o : Nat} {f : Nat → Value} (hv : ∀ j, j < ti.sz → w.cell? ⟨b, o + j, none⟩ = some (f j)) :
    (Instr.loadAt t (.pointer (some ⟨b, o, none⟩))).run P w = .ok (.agg ((List.range ti.sz).map f).toArray) w := by
  have := run_loadCells (P := P) w ⟨b, o, none⟩ ti.sz f (fun j hj => by rw [Addr.add_lit]; exact hv j hj)
  simp [Instr.loadAt, Instr.sureAddr, loadVar, run_isAgg hT h hb, run_sizeOf hT h, this]

end

theorem exec_load {P : Program} {ρ : Operand → Value} {o : Oper} {t : Nat} {x : Operand} (ho : o.op = .load t x) {w w' : World} {v : Value} (h : (Instr.loadAt t (ρ x)).run P w = .ok v w') :
    (execOp ρ o).run P w = .ok (.value v) w' := by simp [execOp, ho, h]

theorem relL_range {Φ : Frz} {f : Nat → Value} {cs : List Cell} (h : ∀ j c, cs[j]? = some c → Rel Φ (f j) c) : RelL Φ ((List.range cs.length).map f) cs :=
  RelL.of_get (by simp) fun j c hj => ⟨f j, by
    have hlt : j < cs.length := (List.getElem?_eq_some_iff.1 hj).1
    simp [List.getElem?_map, List.getElem?_range hlt], h j c hj⟩

theorem fits_cell {Φ : Frz} {w : World} (hf : Fits Φ w) {b k : Nat} {v : Value} (h : (Φ b).bind (·[k]?) = some v) : w.cell? ⟨b, k, none⟩ = some v := by
  cases hb : Φ b with
  | none => simp [hb] at h
  | some c =>
    obtain ⟨E, fz, hw⟩ := hf b c hb
    rw [cell_of_row w b k c E fz hw]
    simpa [hb] using h

section
variable {P : Program} {G : Ghost} {A : St} {T : TT} {o : Oper} {p : Prop}

theorem P_move {x : Operand} {v : AV} (ho : o.op = .move x) (hx : Ev A p x v) : PureOp P G A o p v := PureOp.val fun Φ β a w hs hp =>
  ⟨_, by simp [execOp, ho], hs.ev hx hp⟩
theorem P_assign {x : Operand} {v : AV} (ho : o.op = .assign x) (hx : Ev A p x v) : PureOp P G A o p v := PureOp.val fun Φ β a w hs hp =>
  ⟨_, by simp [execOp, ho], hs.ev hx hp⟩

theorem P_pick {c x y : Operand} {b bx bz : Bool} (ho : o.op = .pick c x y) (hc : Ev A p c (.pv (.one (.bool b)))) (hx : Ev A (p ∧ b = true) x (.pv (.one (.bool bx)))) (hy : Ev A (p ∧ b = false) y (.pv (.one (.bool bz)))) :
    PureOp P G A o p (.pv (.one (.bool (bif b then bx else bz)))) := PureOp.val fun Φ β a w hs hp => by
  have h1 := AVRel.bool (hs.ev hc hp)
  refine ⟨.bool (bif b then bx else bz), ?_, Rel.bool _⟩
  cases b with
  | true => have h2 := AVRel.bool (hs.ev hx ⟨hp, rfl⟩); simp [execOp, ho, h1, h2, asBool]
  | false => have h2 := AVRel.bool (hs.ev hy ⟨hp, rfl⟩); simp [execOp, ho, h1, h2, asBool]
theorem P_or {c y : Operand} {b bz : Bool} (ho : o.op = .pick c (.const (.bool true)) y) (hc : Ev A p c (.pv (.one (.bool b)))) (hy : Ev A (p ∧ b = false) y (.pv (.one (.bool bz)))) :
    PureOp P G A o p (.pv (.one (.bool (b || bz)))) := by
  have := P_pick (P := P) (G := G) ho hc (bx := true) ⟨True, rfl, fun _ => trivial⟩ hy
  cases b <;> simpa using this
theorem P_and {c x : Operand} {b bx : Bool} (ho : o.op = .pick c x (.const (.bool false))) (hc : Ev A p c (.pv (.one (.bool b)))) (hx : Ev A (p ∧ b = true) x (.pv (.one (.bool bx)))) :
    PureOp P G A o p (.pv (.one (.bool (b && bx)))) := by
  have := P_pick (P := P) (G := G) ho hc hx (bz := false) ⟨True, rfl, fun _ => trivial⟩
  cases b <;> simpa using this

variable (hT : TOK P T)
include hT

/-- A load out of an own block. -/
theorem P_load_own {t n i off : Nat} {x : Operand} {ti : TI} {B : Blk} {r : List Cell} {c : Cell} (ho : o.op = .load t x) (ht : T t = some ti) (hb : ti.kind.isAgg = some false)
    (hx : Ev A p x (.addr n i off)) (hl : lk A.blks n = some B) (hr : p → B.rows[i]? = some r) (hc : p → r[off]? = some c) : PureOp P G A o p (.pv (.one c)) := PureOp.val fun Φ β a w hs hp => by
  obtain ⟨b, cap, B', h1, h2, hob, h3⟩ := hs.ev hx hp
  obtain rfl : B = B' := by rw [hl] at h2; exact Option.some.inj h2
  obtain ⟨cur, g1, g2, g3, g4, g5, g6⟩ := (hs.blk n B b cap hl h1).1.cells hob
  obtain ⟨v, hv, hrel⟩ := g6 i off r c (hr hp) (hc hp)
  have hcell : w.cell? ⟨b, i * B.sz + off, none⟩ = some v := by rw [cell_of_row w b _ cur B.E (0, 0) g1]; exact hv
  exact ⟨v, exec_load ho (by rw [h3]; exact run_loadAt_one hT ht hb hcell), hrel⟩

theorem P_load_own_agg {t n i off : Nat} {x : Operand} {ti : TI} {B : Blk} {r : List Cell} (ho : o.op = .load t x) (ht : T t = some ti) (hb : ti.kind.isAgg = some true)
    (hx : Ev A p x (.addr n i off)) (hl : lk A.blks n = some B) (hr : p → B.rows[i]? = some r) (hc : p → off + ti.sz ≤ r.length) : PureOp P G A o p (.pv (.agg ((r.drop off).take ti.sz))) := PureOp.val fun Φ β a w hs hp => by
  obtain ⟨b, cap, B', h1, h2, hob, h3⟩ := hs.ev hx hp
  obtain rfl : B = B' := by rw [hl] at h2; exact Option.some.inj h2
  obtain ⟨cur, g1, g2, g3, g4, g5, g6⟩ := (hs.blk n B b cap hl h1).1.cells hob
  have hlen : ((r.drop off).take ti.sz).length = ti.sz := by have := hc hp; simp; omega
  have hget : ∀ j, j < ti.sz → ∃ c, r[off + j]? = some c := fun j hj => ⟨r[off + j]'(by have := hc hp; omega), List.getElem?_eq_getElem _⟩
  have hcell : ∀ j, j < ti.sz → w.cell? ⟨b, i * B.sz + off + j, none⟩ = some (cur[i * B.sz + off + j]?.getD undef) := fun j hj => by
    obtain ⟨c, hcc⟩ := hget j hj
    obtain ⟨v, hv, _⟩ := g6 i (off + j) r c (hr hp) hcc
    rw [cell_of_row w b _ cur B.E (0, 0) g1]
    have e : i * B.sz + (off + j) = i * B.sz + off + j := by omega
    rw [e] at hv
    simp [hv]
  refine ⟨_, exec_load ho (by rw [h3]; exact run_loadAt_agg hT ht hb hcell), _, rfl, ?_⟩
  have := relL_range (Φ := Φ) (f := fun j => cur[i * B.sz + off + j]?.getD undef) (cs := (r.drop off).take ti.sz) (fun j c hj => by
    rw [List.getElem?_take] at hj
    split at hj
    · rw [List.getElem?_drop] at hj
      obtain ⟨v, hv, hrel⟩ := g6 i (off + j) r c (hr hp) hj
      have e : i * B.sz + (off + j) = i * B.sz + off + j := by omega
      rw [e] at hv
      simpa [hv] using hrel
    · cases hj)
  rwa [hlen] at this

/-- A load through a pointer to memory that does not turn. -/
theorem P_load_ptr {t : Nat} {x : Operand} {ti : TI} {cs : List Cell} {c : Cell} (ho : o.op = .load t x) (ht : T t = some ti) (hb : ti.kind.isAgg = some false)
    (hx : Ev A p x (.pv (.one (.ptr cs)))) (hc : p → cs[0]? = some c) : PureOp P G A o p (.pv (.one c)) := PureOp.val fun Φ β a w hs hp => by
  have hr : Rel Φ (a.eval x) (.ptr cs) := hs.ev hx hp
  generalize hv : a.eval x = v at hr
  cases hr with
  | ptr b off _ f h1 h2 =>
    have hcell := fits_cell hs.fits (h1 0 c (hc hp))
    exact ⟨f 0, exec_load ho (by rw [hv]; exact run_loadAt_one hT ht hb hcell), h2 0 c (hc hp)⟩

theorem P_load_ptr_agg {t : Nat} {x : Operand} {ti : TI} {cs : List Cell} (ho : o.op = .load t x) (ht : T t = some ti) (hb : ti.kind.isAgg = some true)
    (hx : Ev A p x (.pv (.one (.ptr cs)))) (hc : p → ti.sz ≤ cs.length) : PureOp P G A o p (.pv (.agg (cs.take ti.sz))) := PureOp.val fun Φ β a w hs hp => by
  have hr : Rel Φ (a.eval x) (.ptr cs) := hs.ev hx hp
  generalize hv : a.eval x = v at hr
  cases hr with
  | ptr b off _ f h1 h2 =>
    have hlen : (cs.take ti.sz).length = ti.sz := by have := hc hp; simp; omega
    have hcell : ∀ j, j < ti.sz → w.cell? ⟨b, off + j, none⟩ = some (f j) := fun j hj =>
      fits_cell hs.fits (h1 j (cs[j]'(by have := hc hp; omega)) (List.getElem?_eq_getElem _))
    refine ⟨_, exec_load ho (by rw [hv]; exact run_loadAt_agg hT ht hb hcell), _, rfl, ?_⟩
    have := relL_range (Φ := Φ) (f := f) (cs := cs.take ti.sz) (fun j c hj => by
      rw [List.getElem?_take] at hj
      split at hj
      · exact h2 j c hj
      · cases hj)
    rwa [hlen] at this

end
end Lf
