/-
  More rules: blocks whose rows encode a list, weakening that renames blocks, lengths of encoded lists.
-/
import Derived.Test.YtipghibmgfhmpaaGreatDoorLfDraw
set_option linter.unusedVariables false
set_option linter.unusedSimpArgs false
set_option linter.unusedSectionVars false
namespace Lf
open Go Go.RowKit

def AV.ren (ρ : Nat → Nat) : AV → AV
  | .addr n i o => .addr (ρ n) i o
  | .slc n => .slc (ρ n)
  | .mp n => .mp (ρ n)
  | .itr d n => .itr (ρ d) (ρ n)
  | .pin n b c f => .pin (ρ n) b c f
  | .pv p => .pv p
  | .tup l => .tup l
  | .top => .top
def AV.nameIn (bl : List (Nat × Blk)) : AV → Prop
  | .addr n _ _ => (lk bl n).isSome = true
  | .slc n => (lk bl n).isSome = true
  | .mp n => (lk bl n).isSome = true
  | .itr d n => (lk bl d).isSome = true ∧ (lk bl n).isSome = true
  | .pin n _ _ _ => (lk bl n).isSome = true
  | _ => True
theorem Le.ren {A B : St} (ρ : Nat → Nat) (hn : B.n = A.n) (he : ∀ t q v, lk B.env t = some (q, v) → lk A.env t = some (q, v.ren ρ) ∧ v.nameIn B.blks) (hb : ∀ n C, lk B.blks n = some C → lk A.blks (ρ n) = some C)
    (hi : ∀ n n' C C', lk B.blks n = some C → lk B.blks n' = some C' → ρ n = ρ n' → n = n') : Le A B := fun G Φ β a w hs => by
  refine ⟨Φ, fun n => β (ρ n), Φ.le_refl, hs.kept, hs.fits, hs.old, by rw [hn]; exact hs.siz, hs.dfr, fun t q v h => ?_, fun n C b cap h1 h2 => hs.blk _ C b cap (hb n C h1) h2, fun n C h1 h2 => hs.vir _ C (hb n C h1) h2,
    fun n n' C C' b c c' h1 h2 h3 h4 => hi n n' C C' h1 h2 (hs.inj _ _ C C' b c c' (hb n C h1) (hb n' C' h2) h3 h4)⟩
  obtain ⟨h1, h2⟩ := he t q v h
  refine ⟨fun hq => ?_, (hs.env t q _ h1).2⟩
  have h3 := (hs.env t q _ h1).1 hq
  cases v with
  | pv p => exact h3
  | tup l => exact h3
  | top => trivial
  | addr n i o =>
    obtain ⟨b, cap, C, g1, g2, g3⟩ := h3
    obtain ⟨D, hD⟩ := Option.isSome_iff_exists.1 h2
    have := hb n D hD
    rw [this] at g2
    obtain rfl := Option.some.inj g2
    exact ⟨b, cap, D, g1, hD, g3⟩
  | slc n =>
    obtain ⟨C, g2, g3⟩ := h3
    obtain ⟨D, hD⟩ := Option.isSome_iff_exists.1 h2
    have := hb n D hD
    rw [this] at g2
    obtain rfl := Option.some.inj g2
    exact ⟨D, hD, g3⟩
  | mp n =>
    obtain ⟨b, cap, C, g1, g2, g3⟩ := h3
    obtain ⟨D, hD⟩ := Option.isSome_iff_exists.1 h2
    have := hb n D hD
    rw [this] at g2
    obtain rfl := Option.some.inj g2
    exact ⟨b, cap, D, g1, hD, g3⟩
  | itr d n =>
    obtain ⟨b, cap, C, M, c, g1, g2, g3, g4, g5, g6⟩ := h3
    obtain ⟨D, hD⟩ := Option.isSome_iff_exists.1 h2.1
    obtain ⟨E, hE⟩ := Option.isSome_iff_exists.1 h2.2
    have e1 := hb d D hD
    rw [e1] at g2
    obtain rfl := Option.some.inj g2
    have e2 := hb n E hE
    rw [e2] at g5
    obtain rfl := Option.some.inj g5
    exact ⟨b, cap, D, E, c, g1, hD, g3, g4, hE, g6⟩
  | pin n b0 c0 f =>
    obtain ⟨C, g1, g2, g3⟩ := h3
    obtain ⟨D, hD⟩ := Option.isSome_iff_exists.1 h2
    have := hb n D hD
    rw [this] at g2
    obtain rfl := Option.some.inj g2
    exact ⟨D, g1, hD, g3⟩

def renF (l : List (Nat × Nat)) (n : Nat) : Nat := (lk l n).getD n
def renOf (A : St) : List (Nat × (Prop × AV)) → List (Nat × Nat)
  | [] => []
  | (t, (_, v)) :: r => match v, lk A.env t with
    | .slc n, some (_, .slc m) => (n, m) :: renOf A r
    | .mp n, some (_, .mp m) => (n, m) :: renOf A r
    | .itr d n, some (_, .itr e m) => (d, e) :: (n, m) :: renOf A r
    | .addr n _ _, some (_, .addr m _ _) => (n, m) :: renOf A r
    | .pin n _ _ _, some (_, .pin m _ _ _) => (n, m) :: renOf A r
    | _, _ => renOf A r
def SubR (A : St) (ρ : List (Nat × Nat)) (bl' : List (Nat × Blk)) : List (Nat × (Prop × AV)) → Prop
  | [] => True
  | (t, (q, v)) :: r => (lk A.env t = some (q, v.ren (renF ρ)) ∧ v.nameIn bl') ∧ SubR A ρ bl' r
def SubBR (A : St) (ρ : List (Nat × Nat)) : List (Nat × Blk) → Prop
  | [] => True
  | (n, B) :: r => lk A.blks (renF ρ n) = some B ∧ SubBR A ρ r
theorem SubR.nil {A : St} {ρ : List (Nat × Nat)} {bl : List (Nat × Blk)} : SubR A ρ bl [] := trivial
theorem SubR.p {A : St} {ρ : List (Nat × Nat)} {bl : List (Nat × Blk)} {t : Nat} {q : Prop} {p p' : PV} {r : List (Nat × (Prop × AV))} (h : lk A.env t = some (q, .pv p')) (hv : AV.pv p' = AV.pv p) (hr : SubR A ρ bl r) : SubR A ρ bl ((t, (q, .pv p)) :: r) :=
  ⟨⟨by rw [h, hv]; rfl, trivial⟩, hr⟩
theorem SubR.t {A : St} {ρ : List (Nat × Nat)} {bl : List (Nat × Blk)} {t : Nat} {q : Prop} {l l' : List PV} {r : List (Nat × (Prop × AV))} (h : lk A.env t = some (q, .tup l')) (hv : AV.tup l' = AV.tup l) (hr : SubR A ρ bl r) : SubR A ρ bl ((t, (q, .tup l)) :: r) :=
  ⟨⟨by rw [h, hv]; rfl, trivial⟩, hr⟩
theorem SubR.s {A : St} {ρ : List (Nat × Nat)} {bl : List (Nat × Blk)} {t n m : Nat} {q : Prop} {r : List (Nat × (Prop × AV))} (h : lk A.env t = some (q, .slc m)) (hm : renF ρ n = m) (hn : (lk bl n).isSome = true) (hr : SubR A ρ bl r) : SubR A ρ bl ((t, (q, .slc n)) :: r) :=
  ⟨⟨by rw [h, ← hm]; rfl, hn⟩, hr⟩
theorem SubR.a {A : St} {ρ : List (Nat × Nat)} {bl : List (Nat × Blk)} {t n m i o : Nat} {q : Prop} {r : List (Nat × (Prop × AV))} (h : lk A.env t = some (q, .addr m i o)) (hm : renF ρ n = m) (hn : (lk bl n).isSome = true) (hr : SubR A ρ bl r) : SubR A ρ bl ((t, (q, .addr n i o)) :: r) :=
  ⟨⟨by rw [h, ← hm]; rfl, hn⟩, hr⟩
theorem SubR.m {A : St} {ρ : List (Nat × Nat)} {bl : List (Nat × Blk)} {t n m : Nat} {q : Prop} {r : List (Nat × (Prop × AV))} (h : lk A.env t = some (q, .mp m)) (hm : renF ρ n = m) (hn : (lk bl n).isSome = true) (hr : SubR A ρ bl r) : SubR A ρ bl ((t, (q, .mp n)) :: r) :=
  ⟨⟨by rw [h, ← hm]; rfl, hn⟩, hr⟩
theorem SubR.k {A : St} {ρ : List (Nat × Nat)} {bl : List (Nat × Blk)} {t n m b c : Nat} {f : Nat → Value} {q : Prop} {r : List (Nat × (Prop × AV))} (h : lk A.env t = some (q, .pin m b c f)) (hm : renF ρ n = m) (hn : (lk bl n).isSome = true) (hr : SubR A ρ bl r) : SubR A ρ bl ((t, (q, .pin n b c f)) :: r) :=
  ⟨⟨by rw [h, ← hm]; rfl, hn⟩, hr⟩
theorem SubR.i {A : St} {ρ : List (Nat × Nat)} {bl : List (Nat × Blk)} {t d e n m : Nat} {q : Prop} {r : List (Nat × (Prop × AV))} (h : lk A.env t = some (q, .itr e m)) (he : renF ρ d = e) (hm : renF ρ n = m) (hd : (lk bl d).isSome = true) (hn : (lk bl n).isSome = true) (hr : SubR A ρ bl r) : SubR A ρ bl ((t, (q, .itr d n)) :: r) :=
  ⟨⟨by rw [h, ← hm, ← he]; rfl, hd, hn⟩, hr⟩
theorem SubBR.nil {A : St} {ρ : List (Nat × Nat)} : SubBR A ρ [] := trivial
theorem SubBR.cons {A : St} {ρ : List (Nat × Nat)} {n : Nat} {B B' : Blk} {r : List (Nat × Blk)} (h : lk A.blks (renF ρ n) = some B') (hv : B' = B) (hr : SubBR A ρ r) : SubBR A ρ ((n, B) :: r) := ⟨hv ▸ h, hr⟩
theorem SubR.append {A : St} {ρ : List (Nat × Nat)} {bl : List (Nat × Blk)} : ∀ {l m : List (Nat × (Prop × AV))}, SubR A ρ bl l → SubR A ρ bl m → SubR A ρ bl (l ++ m)
  | [], _, _, h => h
  | _ :: _, _, ⟨h1, h2⟩, h => ⟨h1, SubR.append h2 h⟩
theorem SubR.get {A : St} {ρ : List (Nat × Nat)} {bl : List (Nat × Blk)} : ∀ {env : List (Nat × (Prop × AV))}, SubR A ρ bl env → ∀ {t q v}, lk env t = some (q, v) → lk A.env t = some (q, v.ren (renF ρ)) ∧ v.nameIn bl
  | [], _, t, q, v, h => by simp [lk] at h
  | (s, (q0, v0)) :: r, hs, t, q, v, h => by
    rw [lk_cons] at h
    split at h
    · rename_i e; subst e
      simp only [Option.some.injEq, Prod.mk.injEq] at h
      obtain ⟨rfl, rfl⟩ := h
      exact hs.1
    · exact SubR.get hs.2 h
theorem SubBR.get {A : St} {ρ : List (Nat × Nat)} : ∀ {bl : List (Nat × Blk)}, SubBR A ρ bl → ∀ {n C}, lk bl n = some C → lk A.blks (renF ρ n) = some C
  | [], _, n, C, h => by simp [lk] at h
  | (s, B) :: r, hs, n, C, h => by
    rw [lk_cons] at h
    split at h
    · rename_i e; subst e
      obtain rfl := Option.some.inj h
      exact hs.1
    · exact SubBR.get hs.2 h
def injOn (ρ : List (Nat × Nat)) (bl : List (Nat × Blk)) : Bool := bl.all fun a => bl.all fun b => !(Nat.beq (renF ρ a.1) (renF ρ b.1)) || Nat.beq a.1 b.1
theorem lk_mem {α : Type _} : ∀ {l : List (Nat × α)} {n : Nat} {x : α}, lk l n = some x → (n, x) ∈ l
  | [], n, x, h => by simp [lk] at h
  | (s, y) :: r, n, x, h => by
    rw [lk_cons] at h
    split at h
    · rename_i e; subst e
      obtain rfl := Option.some.inj h
      exact List.mem_cons_self ..
    · exact List.mem_cons_of_mem _ (lk_mem h)
theorem Le.mkR {A : St} {n : Nat} {f E : List (Nat × (Prop × AV))} {bl : List (Nat × Blk)} {ρ : List (Nat × Nat)} (hρ : renOf A f = ρ) (hn : n = A.n) (hf : SubR A ρ bl f) (hE : SubR A ρ bl E) (hb : SubBR A ρ bl) (hi : injOn ρ bl = true) : Le A (Lf.mkSt n f E bl) := by
  refine Le.ren (renF ρ) hn (fun t q v h => (hf.append hE).get h) (fun n C h => hb.get h) fun a b C C' h1 h2 h3 => ?_
  have := List.all_eq_true.1 (List.all_eq_true.1 hi _ (lk_mem h1)) _ (lk_mem h2)
  simp [h3] at this
  exact this

section
variable {P : Program} {T : Nat → Option TI} (hT : TOK P T)
include hT
variable {G : Ghost} {ops : Array Oper} {rest : List Oper} {Q : St → Prop} {n0 : Nat} {env : List (Nat × (Prop × AV))} {bl : List (Nat × Blk)} {p : Prop}
variable {dst : Option Nat} {ty : TypeId} {pos : String} {after : Array Edge} {gd : Option (Nat × Bool)}
/-- the length of an encoded list -/
theorem Q_lenm {α : Type} {t e : Nat} {x : Operand} {ti : TI} {l : List α} {f : α → List Cell} (hx : Ev (St.mk n0 env bl) p x (.pv (.one (.sl (l.map f))))) (ht : T t = some ti) (hk : ti.kind = .slice e) :
    PureOp P G (St.mk n0 env bl) ⟨dst, .call ⟨.builtin .len, #[x], #[t]⟩, ty, pos, after, gd⟩ p (.pv (.one (.int .i64 l.length))) := by
  have h := Q_lend (G := G) (dst := dst) (ty := ty) (pos := pos) (after := after) (gd := gd) hT hx ht hk
  rw [List.length_map] at h; exact h
theorem Q_lenom {α : Type} {t e n E sz : Nat} {x : Operand} {ti : TI} {l : List α} {f : α → List Cell} (hx : Ev (St.mk n0 env bl) p x (.slc n)) (ht : T t = some ti) (hk : ti.kind = .slice e) (hl : lk bl n = some ⟨E, sz, l.map f⟩) :
    PureOp P G (St.mk n0 env bl) ⟨dst, .call ⟨.builtin .len, #[x], #[t]⟩, ty, pos, after, gd⟩ p (.pv (.one (.int .i64 l.length))) := by
  have h := Q_len (G := G) (dst := dst) (ty := ty) (pos := pos) (after := after) (gd := gd) hT hx ht hk hl
  simp only [List.length_map] at h; exact h
theorem Q_binB {op : BinOp} {xt yt : Nat} {x y : Operand} {ti : TI} {l m : Bool} {c : Cell} (hx : Ev (St.mk n0 env bl) p x (.pv (.one (.bool l)))) (hy : Ev (St.mk n0 env bl) p y (.pv (.one (.bool m)))) (ht : T xt = some ti) (hk : ti.kind = .bool) (hr : binB op l m = some c) :
    PureOp P G (St.mk n0 env bl) ⟨dst, .binOp op xt x y yt, ty, pos, after, gd⟩ p (.pv (.one c)) := P_binB rfl hx hy (by have := (hT _ _ ht).kind; rw [hk] at this; exact this) hr
/-- a load from a block that encodes a list -/
theorem Q_loadm {α : Type} {t n i off E sz : Nat} {x : Operand} {ti : TI} {l : List α} {f : α → List Cell} {c : Cell} (ht : T t = some ti) (hb : ti.kind.isAgg = some false) (hx : Ev (St.mk n0 env bl) p x (.addr n i off))
    (hl : lk bl n = some ⟨E, sz, l.map f⟩) (I : Inhabited α) (hi : p → i < l.length) (hc : (f (nth l i))[off]? = some c) : PureOp P G (St.mk n0 env bl) ⟨dst, .load t x, ty, pos, after, gd⟩ p (.pv (.one c)) :=
  P_load_own hT rfl ht hb hx hl (r := f (nth l i)) (fun hp => by have := hi hp; simp [List.getElem?_eq_getElem this, nth, List.getD]) (fun _ => hc)
theorem Q_loadma {α : Type} {t n i off E sz : Nat} {x : Operand} {ti : TI} {l : List α} {f : α → List Cell} (ht : T t = some ti) (hb : ti.kind.isAgg = some true) (hx : Ev (St.mk n0 env bl) p x (.addr n i off))
    (hl : lk bl n = some ⟨E, sz, l.map f⟩) (I : Inhabited α) (hi : p → i < l.length) (hc : Nat.ble (off + ti.sz) (f (nth l i)).length = true) : PureOp P G (St.mk n0 env bl) ⟨dst, .load t x, ty, pos, after, gd⟩ p (.pv (.agg (((f (nth l i)).drop off).take ti.sz))) :=
  P_load_own_agg hT rfl ht hb hx hl (r := f (nth l i)) (fun hp => by have := hi hp; simp [List.getElem?_eq_getElem this, nth, List.getD]) (fun _ => Nat.le_of_ble_eq_true hc)
/-- a store of a whole row into a block that encodes a list -/
theorem S_storem {α : Type} {t n i E sz : Nat} {x y : Operand} {ti : TI} {l : List α} {f : α → List Cell} {v : α} {q : PV} (hx : Ev (St.mk n0 env bl) True x (.addr n i 0)) (hy : Ev (St.mk n0 env bl) True y (.pv q)) (ht : T t = some ti)
    (hl : lk bl n = some ⟨E, sz, l.map f⟩) (hi : i < l.length) (hq : q.cells = f v) (hf : ∀ z, (f z).length = ti.sz)
    (h : RG P G ops rest Q (St.mk n0 env ((n, ⟨E, sz, (l.set i v).map f⟩) :: bl))) :
    RG P G ops (⟨none, .store t x y, ty, pos, after, none⟩ :: rest) Q (St.mk n0 env bl) := by
  have hr : (l.map f)[i]? = some (f l[i]) := by simp [List.getElem?_eq_getElem hi]
  refine RG.eff rfl (E_store hT rfl rfl ht hx hy hl hr (by rw [hq, hf]) (by rw [hf]; omega)) ?_
  have e : splice (f l[i]) 0 q.cells = f v := by
    rw [hq]; unfold splice; rw [hf, List.drop_eq_nil_of_le (by rw [hf]; omega)]; simp
  simp only [e, ← List.map_set]
  exact h
/-- new room, as an encoded list -/
theorem S_makem {α : Type} {t e d : Nat} {x y : Operand} {kx ky : IntKind} {m c : Int} {ti te : TI} (f : α → List Cell) (z : α) (hx : Ev (St.mk n0 env bl) True x (.pv (.one (.int kx m)))) (hy : Ev (St.mk n0 env bl) True y (.pv (.one (.int ky c)))) (ht : T t = some ti) (hk : ti.kind = .slice e) (he : T e = some te)
    (hz : te.zero.cells = f z) (hzl : (f z).length = te.sz) (hmc : 0 ≤ m ∧ m ≤ c ∧ c * te.bytes ≤ 281474976710656 ∧ c ≤ 281474976710656) (hfr : lk bl d = none) (hn : Nat.blt d n0 = true)
    (h : RG P G ops rest Q (St.mk n0 ((d, (True, .slc d)) :: env) ((d, ⟨e, te.sz, (List.replicate m.toNat z).map f⟩) :: bl))) : RG P G ops (⟨some d, .makeSlice t x y, ty, pos, after, none⟩ :: rest) Q (St.mk n0 env bl) := by
  refine S_make hT hx hy ht hk he (by rw [hz, hzl]) hmc hfr hn ?_
  rw [hz, ← List.map_replicate]; exact h
end
/-- a guard whose value is known -/
theorem RG.gT {P : Program} {G : Ghost} {ops : Array Oper} {rest : List Oper} {Q : St → Prop} {A : St} {o : Option Nat} {op : Op} {ty : TypeId} {pos : String} {after : Array Edge} {j t : Nat} {want b : Bool}
    (hj : (ops[j]?).bind (·.dst) = some t) (ht : lk A.env t = some (True, .pv (.one (.bool b)))) (hb : b = want) (h : RG P G ops (⟨o, op, ty, pos, after, none⟩ :: rest) Q A) : RG P G ops (⟨o, op, ty, pos, after, some (j, want)⟩ :: rest) Q A := fun Φ β a w hs Q' hq => by
  have h1 := h Φ β a w hs Q' hq
  have hw := (GOk.ifT (o := ⟨o, op, ty, pos, after, some (j, want)⟩) rfl hj ht G Φ β a w hs).2 hb
  unfold wpList at h1 ⊢
  rw [if_pos hw]
  rw [if_pos (by simp [Region.wanted])] at h1
  exact h1
theorem RG.gF {P : Program} {G : Ghost} {ops : Array Oper} {rest : List Oper} {Q : St → Prop} {A : St} {d : Nat} {op : Op} {ty : TypeId} {pos : String} {after : Array Edge} {j t : Nat} {want b : Bool}
    (hj : (ops[j]?).bind (·.dst) = some t) (ht : lk A.env t = some (True, .pv (.one (.bool b)))) (hb : b ≠ want) (hn : Nat.blt d A.n = true) (h : RG P G ops rest Q (A.set d False .top)) : RG P G ops (⟨some d, op, ty, pos, after, some (j, want)⟩ :: rest) Q A :=
  RG.pure (GOk.ifT rfl hj ht) (fun Φ β a w hs hp => (hb hp).elim) rfl (blt_lt hn) (fun Φ β a w hs Q' hq => h Φ β a w ⟨hs.kept, hs.fits, hs.old, hs.siz, hs.dfr, fun s q v hl => by
    have hl' := hl
    simp only [St.set] at hl
    rw [lk_cons] at hl
    split at hl
    · rename_i e; subst e
      simp only [Option.some.injEq, Prod.mk.injEq] at hl
      obtain ⟨rfl, rfl⟩ := hl
      refine ⟨fun hx => hx.elim, fun _ => ?_⟩
      exact (hs.env d (b = want) .top (by simp only [St.set]; rw [lk_cons, if_pos rfl])).2 hb
    · rename_i e
      exact hs.env s q v (by simp only [St.set]; rw [lk_cons, if_neg e]; exact hl), hs.blk, hs.vir, hs.inj⟩ Q' hq)
theorem nth_eq {α : Type} [Inhabited α] {l : List α} {k : Nat} (h : k < l.length) : nth l k = l[k] := by simp [nth, List.getD, List.getElem?_eq_getElem h]
theorem take_nth {α : Type} [Inhabited α] {l : List α} {k : Nat} (h : k < l.length) : l.take (k + 1) = l.take k ++ [nth l k] := by
  rw [List.take_add_one, List.getElem?_eq_getElem h, nth_eq h]; rfl
theorem PSub.of_eq {a b : PV} (h : a = b) : PSub a b := h ▸ PSub.refl a
end Lf
