/-
  Part 3 of what the proof rests on.
-/
import Derived.Test.YtgpcmgjdkefdjaaCS02
import Derived.Maps.RangeRun
import Derived.MapKept
import Derived.Test.YtgpcmgjdkefdjaaRows
import Derived.KernelRfl
section
set_option linter.unusedVariables false
set_option linter.unusedSimpArgs false
set_option linter.unusedSectionVars false
namespace Lf
open Go Go.RowKit
def AV.ren (ρ : Nat → Nat) : AV → AV
  | .addr n i o => .addr (ρ n) i o
  | .slc n => .slc (ρ n)
  | .mp n => .mp (ρ n)
  | .itr d n => .itr (ρ d) (ρ n)
  | .pin n b c f => .pin (ρ n) b c f
  | .pv p => .pv p
  | .tup l => .tup l
  | .top => .top
def AV.nameIn (bl : List (Nat × Blk)) : AV → Prop
  | .addr n _ _ => (lk bl n).isSome = true
  | .slc n => (lk bl n).isSome = true
  | .mp n => (lk bl n).isSome = true
  | .itr d n => (lk bl d).isSome = true ∧ (lk bl n).isSome = true
  | .pin n _ _ _ => (lk bl n).isSome = true
  | _ => True
theorem Le.ren {A B : St} (ρ : Nat → Nat) (hn : B.n = A.n) (he : ∀ t q v, lk B.env t = some (q, v) → lk A.env t = some (q, v.ren ρ) ∧ v.nameIn B.blks) (hb : ∀ n C, lk B.blks n = some C → lk A.blks (ρ n) = some C)
    (hi : ∀ n n' C C', lk B.blks n = some C → lk B.blks n' = some C' → ρ n = ρ n' → n = n') : Le A B := fun G Φ β a w hs => by
  refine ⟨Φ, fun n => β (ρ n), Φ.le_refl, hs.kept, hs.fits, hs.old, by rw [hn]; exact hs.siz, hs.dfr, fun t q v h => ?_, fun n C b cap h1 h2 => hs.blk _ C b cap (hb n C h1) h2, fun n C h1 h2 => hs.vir _ C (hb n C h1) h2,
    fun n n' C C' b c c' h1 h2 h3 h4 => hi n n' C C' h1 h2 (hs.inj _ _ C C' b c c' (hb n C h1) (hb n' C' h2) h3 h4)⟩
  obtain ⟨h1, h2⟩ := he t q v h
  refine ⟨fun hq => ?_, (hs.env t q _ h1).2⟩
  have h3 := (hs.env t q _ h1).1 hq
  cases v with
  | pv p => exact h3
  | tup l => exact h3
  | top => trivial
  | addr n i o =>
    obtain ⟨b, cap, C, g1, g2, g3⟩ := h3
    obtain ⟨D, hD⟩ := Option.isSome_iff_exists.1 h2
    have := hb n D hD
    rw [this] at g2
    obtain rfl := Option.some.inj g2
    exact ⟨b, cap, D, g1, hD, g3⟩
  | slc n =>
    obtain ⟨C, g2, g3⟩ := h3
    obtain ⟨D, hD⟩ := Option.isSome_iff_exists.1 h2
    have := hb n D hD
    rw [this] at g2
    obtain rfl := Option.some.inj g2
    exact ⟨D, hD, g3⟩
  | mp n =>
    obtain ⟨b, cap, C, g1, g2, g3⟩ := h3
    obtain ⟨D, hD⟩ := Option.isSome_iff_exists.1 h2
    have := hb n D hD
    rw [this] at g2
    obtain rfl := Option.some.inj g2
    exact ⟨b, cap, D, g1, hD, g3⟩
  | itr d n =>
    obtain ⟨b, cap, C, M, c, g1, g2, g3, g4, g5, g6⟩ := h3
    obtain ⟨D, hD⟩ := Option.isSome_iff_exists.1 h2.1
    obtain ⟨E, hE⟩ := Option.isSome_iff_exists.1 h2.2
    have e1 := hb d D hD
    rw [e1] at g2
    obtain rfl := Option.some.inj g2
    have e2 := hb n E hE
    rw [e2] at g5
    obtain rfl := Option.some.inj g5
    exact ⟨b, cap, D, E, c, g1, hD, g3, g4, hE, g6⟩
  | pin n b0 c0 f =>
    obtain ⟨C, g1, g2, g3⟩ := h3
    obtain ⟨D, hD⟩ := Option.isSome_iff_exists.1 h2
    have := hb n D hD
    rw [this] at g2
    obtain rfl := Option.some.inj g2
    exact ⟨D, g1, hD, g3⟩
def renF (l : List (Nat × Nat)) (n : Nat) : Nat := (lk l n).getD n
def renOf (A : St) : List (Nat × (Prop × AV)) → List (Nat × Nat)
  | [] => []
  | (t, (_, v)) :: r => match v, lk A.env t with
    | .slc n, some (_, .slc m) => (n, m) :: renOf A r
    | .mp n, some (_, .mp m) => (n, m) :: renOf A r
    | .itr d n, some (_, .itr e m) => (d, e) :: (n, m) :: renOf A r
    | .addr n _ _, some (_, .addr m _ _) => (n, m) :: renOf A r
    | .pin n _ _ _, some (_, .pin m _ _ _) => (n, m) :: renOf A r
    | _, _ => renOf A r
def SubR (A : St) (ρ : List (Nat × Nat)) (bl' : List (Nat × Blk)) : List (Nat × (Prop × AV)) → Prop
  | [] => True
  | (t, (q, v)) :: r => (lk A.env t = some (q, v.ren (renF ρ)) ∧ v.nameIn bl') ∧ SubR A ρ bl' r
def SubBR (A : St) (ρ : List (Nat × Nat)) : List (Nat × Blk) → Prop
  | [] => True
  | (n, B) :: r => lk A.blks (renF ρ n) = some B ∧ SubBR A ρ r
theorem SubR.nil {A : St} {ρ : List (Nat × Nat)} {bl : List (Nat × Blk)} : SubR A ρ bl [] := trivial
theorem SubR.p {A : St} {ρ : List (Nat × Nat)} {bl : List (Nat × Blk)} {t : Nat} {q : Prop} {p p' : PV} {r : List (Nat × (Prop × AV))} (h : lk A.env t = some (q, .pv p')) (hv : AV.pv p' = AV.pv p) (hr : SubR A ρ bl r) : SubR A ρ bl ((t, (q, .pv p)) :: r) :=
  ⟨⟨by rw [h, hv]; rfl, trivial⟩, hr⟩
theorem SubR.s {A : St} {ρ : List (Nat × Nat)} {bl : List (Nat × Blk)} {t n m : Nat} {q : Prop} {r : List (Nat × (Prop × AV))} (h : lk A.env t = some (q, .slc m)) (hm : renF ρ n = m) (hn : (lk bl n).isSome = true) (hr : SubR A ρ bl r) : SubR A ρ bl ((t, (q, .slc n)) :: r) :=
  ⟨⟨by rw [h, ← hm]; rfl, hn⟩, hr⟩
theorem SubR.a {A : St} {ρ : List (Nat × Nat)} {bl : List (Nat × Blk)} {t n m i o : Nat} {q : Prop} {r : List (Nat × (Prop × AV))} (h : lk A.env t = some (q, .addr m i o)) (hm : renF ρ n = m) (hn : (lk bl n).isSome = true) (hr : SubR A ρ bl r) : SubR A ρ bl ((t, (q, .addr n i o)) :: r) :=
  ⟨⟨by rw [h, ← hm]; rfl, hn⟩, hr⟩
theorem SubR.m {A : St} {ρ : List (Nat × Nat)} {bl : List (Nat × Blk)} {t n m : Nat} {q : Prop} {r : List (Nat × (Prop × AV))} (h : lk A.env t = some (q, .mp m)) (hm : renF ρ n = m) (hn : (lk bl n).isSome = true) (hr : SubR A ρ bl r) : SubR A ρ bl ((t, (q, .mp n)) :: r) :=
  ⟨⟨by rw [h, ← hm]; rfl, hn⟩, hr⟩
theorem SubR.k {A : St} {ρ : List (Nat × Nat)} {bl : List (Nat × Blk)} {t n m b c : Nat} {f : Nat → Value} {q : Prop} {r : List (Nat × (Prop × AV))} (h : lk A.env t = some (q, .pin m b c f)) (hm : renF ρ n = m) (hn : (lk bl n).isSome = true) (hr : SubR A ρ bl r) : SubR A ρ bl ((t, (q, .pin n b c f)) :: r) :=
  ⟨⟨by rw [h, ← hm]; rfl, hn⟩, hr⟩
theorem SubBR.nil {A : St} {ρ : List (Nat × Nat)} : SubBR A ρ [] := trivial
theorem SubBR.cons {A : St} {ρ : List (Nat × Nat)} {n : Nat} {B B' : Blk} {r : List (Nat × Blk)} (h : lk A.blks (renF ρ n) = some B') (hv : B' = B) (hr : SubBR A ρ r) : SubBR A ρ ((n, B) :: r) := ⟨hv ▸ h, hr⟩
theorem SubR.append {A : St} {ρ : List (Nat × Nat)} {bl : List (Nat × Blk)} : ∀ {l m : List (Nat × (Prop × AV))}, SubR A ρ bl l → SubR A ρ bl m → SubR A ρ bl (l ++ m)
  | [], _, _, h => h
  | _ :: _, _, ⟨h1, h2⟩, h => ⟨h1, SubR.append h2 h⟩
theorem SubR.get {A : St} {ρ : List (Nat × Nat)} {bl : List (Nat × Blk)} : ∀ {env : List (Nat × (Prop × AV))}, SubR A ρ bl env → ∀ {t q v}, lk env t = some (q, v) → lk A.env t = some (q, v.ren (renF ρ)) ∧ v.nameIn bl
  | [], _, t, q, v, h => by simp [lk] at h
  | (s, (q0, v0)) :: r, hs, t, q, v, h => by
    rw [lk_cons] at h
    split at h
    · rename_i e; subst e
      simp only [Option.some.injEq, Prod.mk.injEq] at h
      obtain ⟨rfl, rfl⟩ := h
      exact hs.1
    · exact SubR.get hs.2 h
theorem SubBR.get {A : St} {ρ : List (Nat × Nat)} : ∀ {bl : List (Nat × Blk)}, SubBR A ρ bl → ∀ {n C}, lk bl n = some C → lk A.blks (renF ρ n) = some C
  | [], _, n, C, h => by simp [lk] at h
  | (s, B) :: r, hs, n, C, h => by
    rw [lk_cons] at h
    split at h
    · rename_i e; subst e
      obtain rfl := Option.some.inj h
      exact hs.1
    · exact SubBR.get hs.2 h
def injOn (ρ : List (Nat × Nat)) (bl : List (Nat × Blk)) : Bool := bl.all fun a => bl.all fun b => !(Nat.beq (renF ρ a.1) (renF ρ b.1)) || Nat.beq a.1 b.1
theorem lk_mem {α : Type _} : ∀ {l : List (Nat × α)} {n : Nat} {x : α}, lk l n = some x → (n, x) ∈ l
  | [], n, x, h => by simp [lk] at h
  | (s, y) :: r, n, x, h => by
    rw [lk_cons] at h
    split at h
    · rename_i e; subst e
      obtain rfl := Option.some.inj h
      exact List.mem_cons_self ..
    · exact List.mem_cons_of_mem _ (lk_mem h)
theorem Le.mkR {A : St} {n : Nat} {f E : List (Nat × (Prop × AV))} {bl : List (Nat × Blk)} {ρ : List (Nat × Nat)} (hρ : renOf A f = ρ) (hn : n = A.n) (hf : SubR A ρ bl f) (hE : SubR A ρ bl E) (hb : SubBR A ρ bl) (hi : injOn ρ bl = true) : Le A (Lf.mkSt n f E bl) := by
  refine Le.ren (renF ρ) hn (fun t q v h => (hf.append hE).get h) (fun n C h => hb.get h) fun a b C C' h1 h2 h3 => ?_
  have := List.all_eq_true.1 (List.all_eq_true.1 hi _ (lk_mem h1)) _ (lk_mem h2)
  simp [h3] at this
  exact this
section
variable {P : Program} {T : Nat → Option TI} (hT : TOK P T)
include hT
variable {G : Ghost} {ops : Array Oper} {rest : List Oper} {Q : St → Prop} {n0 : Nat} {env : List (Nat × (Prop × AV))} {bl : List (Nat × Blk)} {p : Prop}
variable {dst : Option Nat} {ty : TypeId} {pos : String} {after : Array Edge} {gd : Option (Nat × Bool)}
/-- the length of an encoded list -/
theorem Q_lenm {α : Type} {t e : Nat} {x : Operand} {ti : TI} {l : List α} {f : α → List Cell} (hx : Ev (St.mk n0 env bl) p x (.pv (.one (.sl (l.map f))))) (ht : T t = some ti) (hk : ti.kind = .slice e) :
    PureOp P G (St.mk n0 env bl) ⟨dst, .call ⟨.builtin .len, #[x], #[t]⟩, ty, pos, after, gd⟩ p (.pv (.one (.int .i64 l.length))) := by
  have h := Q_lend (G := G) (dst := dst) (ty := ty) (pos := pos) (after := after) (gd := gd) hT hx ht hk
  rw [List.length_map] at h; exact h
theorem Q_lenom {α : Type} {t e n E sz : Nat} {x : Operand} {ti : TI} {l : List α} {f : α → List Cell} (hx : Ev (St.mk n0 env bl) p x (.slc n)) (ht : T t = some ti) (hk : ti.kind = .slice e) (hl : lk bl n = some ⟨E, sz, l.map f⟩) :
    PureOp P G (St.mk n0 env bl) ⟨dst, .call ⟨.builtin .len, #[x], #[t]⟩, ty, pos, after, gd⟩ p (.pv (.one (.int .i64 l.length))) := by
  have h := Q_len (G := G) (dst := dst) (ty := ty) (pos := pos) (after := after) (gd := gd) hT hx ht hk hl
  simp only [List.length_map] at h; exact h
theorem Q_binB {op : BinOp} {xt yt : Nat} {x y : Operand} {ti : TI} {l m : Bool} {c : Cell} (hx : Ev (St.mk n0 env bl) p x (.pv (.one (.bool l)))) (hy : Ev (St.mk n0 env bl) p y (.pv (.one (.bool m)))) (ht : T xt = some ti) (hk : ti.kind = .bool) (hr : binB op l m = some c) :
    PureOp P G (St.mk n0 env bl) ⟨dst, .binOp op xt x y yt, ty, pos, after, gd⟩ p (.pv (.one c)) := P_binB rfl hx hy (by have := (hT _ _ ht).kind; rw [hk] at this; exact this) hr
/-- a load from a block that encodes a list -/
theorem Q_loadm {α : Type} {t n i off E sz : Nat} {x : Operand} {ti : TI} {l : List α} {f : α → List Cell} {c : Cell} (ht : T t = some ti) (hb : ti.kind.isAgg = some false) (hx : Ev (St.mk n0 env bl) p x (.addr n i off))
    (hl : lk bl n = some ⟨E, sz, l.map f⟩) (I : Inhabited α) (hi : p → i < l.length) (hc : (f (nth l i))[off]? = some c) : PureOp P G (St.mk n0 env bl) ⟨dst, .load t x, ty, pos, after, gd⟩ p (.pv (.one c)) :=
  P_load_own hT rfl ht hb hx hl (r := f (nth l i)) (fun hp => by have := hi hp; simp [List.getElem?_eq_getElem this, nth, List.getD]) (fun _ => hc)
theorem Q_loadma {α : Type} {t n i off E sz : Nat} {x : Operand} {ti : TI} {l : List α} {f : α → List Cell} (ht : T t = some ti) (hb : ti.kind.isAgg = some true) (hx : Ev (St.mk n0 env bl) p x (.addr n i off))
    (hl : lk bl n = some ⟨E, sz, l.map f⟩) (I : Inhabited α) (hi : p → i < l.length) (hc : Nat.ble (off + ti.sz) (f (nth l i)).length = true) : PureOp P G (St.mk n0 env bl) ⟨dst, .load t x, ty, pos, after, gd⟩ p (.pv (.agg (((f (nth l i)).drop off).take ti.sz))) :=
  P_load_own_agg hT rfl ht hb hx hl (r := f (nth l i)) (fun hp => by have := hi hp; simp [List.getElem?_eq_getElem this, nth, List.getD]) (fun _ => Nat.le_of_ble_eq_true hc)
/-- a store of a whole row into a block that encodes a list -/
theorem S_storem {α : Type} {t n i E sz : Nat} {x y : Operand} {ti : TI} {l : List α} {f : α → List Cell} {v : α} {q : PV} (hx : Ev (St.mk n0 env bl) True x (.addr n i 0)) (hy : Ev (St.mk n0 env bl) True y (.pv q)) (ht : T t = some ti)
    (hl : lk bl n = some ⟨E, sz, l.map f⟩) (hi : i < l.length) (hq : q.cells = f v) (hf : ∀ z, (f z).length = ti.sz)
    (h : RG P G ops rest Q (St.mk n0 env ((n, ⟨E, sz, (l.set i v).map f⟩) :: bl))) :
    RG P G ops (⟨none, .store t x y, ty, pos, after, none⟩ :: rest) Q (St.mk n0 env bl) := by
  have hr : (l.map f)[i]? = some (f l[i]) := by simp [List.getElem?_eq_getElem hi]
  refine RG.eff rfl (E_store hT rfl rfl ht hx hy hl hr (by rw [hq, hf]) (by rw [hf]; omega)) ?_
  have e : splice (f l[i]) 0 q.cells = f v := by
    rw [hq]; unfold splice; rw [hf, List.drop_eq_nil_of_le (by rw [hf]; omega)]; simp
  simp only [e, ← List.map_set]
  exact h
end
theorem nth_eq {α : Type} [Inhabited α] {l : List α} {k : Nat} (h : k < l.length) : nth l k = l[k] := by simp [nth, List.getD, List.getElem?_eq_getElem h]
theorem take_nth {α : Type} [Inhabited α] {l : List α} {k : Nat} (h : k < l.length) : l.take (k + 1) = l.take k ++ [nth l k] := by
  rw [List.take_add_one, List.getElem?_eq_getElem h, nth_eq h]; rfl
theorem PSub.of_eq {a b : PV} (h : a = b) : PSub a b := h ▸ PSub.refl a
end Lf
end
section
set_option linter.unusedVariables false
set_option linter.unusedSimpArgs false
set_option linter.unusedSectionVars false
namespace Lf
open Go Go.RowKit
section
variable {P : Program} {G : Ghost} {A : St} {a : Act} {w : World}
theorem callv_run {f : FuncId} {x : Operand} {vs : Array Value} {xs : List Operand} {ats : Array TypeId} {o : Oper} (ho : o.op = .call { callee := .value x, args := xs.toArray, argTypes := ats }) (hv : a.eval x = .func (.func f) #[] vs) (hf : FnOK P f) :
    (execOp a.eval o).run P w = .ok (.enter f ((xs.map a.eval).toArray ++ vs)) w := by
  obtain ⟨fn, h1, h2, h3⟩ := hf
  have e : execOp a.eval o = (do let d ← resolve a.eval { callee := .value x, args := xs.toArray, argTypes := ats } o.type; invoke d.target d.args) := by simp only [execOp, ho]
  rw [e]
  have h2' : ¬ fn.name = "runtime.NumGoroutine" := by simpa using h2
  have h3' : ¬ fn.body = none := by intro hx; rw [hx] at h3; cases h3
  simp only [resolve, hv, Deferred.ofValue, pure_bind, invoke, callFunc]
  simp [h1, h2', h3']
theorem rel_fn {Φ : Frz} {v : Value} {f : Nat} {caps : List Cell} (h : Rel Φ v (.fn f caps)) : ∃ vs : Array Value, v = .func (.func f) #[] vs ∧ vs.size = caps.length ∧ ∀ (j : Nat) (c : Cell), caps[j]? = some c → ∃ u, vs[j]? = some u ∧ Rel Φ u c := by
  cases h with
  | fn f caps vs g hlen hc hr => exact ⟨vs, rfl, hlen, fun j c hj => ⟨g j, hc j c hj, hr j c hj⟩⟩
theorem args_more {Φ : Frz} {vs us : Array Value} {ps : List PV} {caps : List Cell} (h : vs.size = ps.length) (h1 : ∀ (j : Nat) (p : PV), ps[j]? = some p → ∃ v, vs[j]? = some v ∧ PRel Φ v p) (hl : us.size = caps.length) (h2 : ∀ (j : Nat) (c : Cell), caps[j]? = some c → ∃ u, us[j]? = some u ∧ Rel Φ u c) :
    ArgsRel Φ (vs ++ us) (ps ++ caps.map PV.one) := by
  refine ⟨by simp [h, hl], fun j p hj => ?_⟩
  rw [List.getElem?_append] at hj
  split at hj
  · rename_i hlt
    obtain ⟨v, g1, g2⟩ := h1 j p hj
    exact ⟨v, by rw [Array.getElem?_append, if_pos (by omega)]; exact g1, g2⟩
  · rename_i hge
    rw [List.getElem?_map] at hj
    cases hc : caps[j - ps.length]? with
    | none => rw [hc] at hj; cases hj
    | some c =>
      rw [hc] at hj
      obtain rfl : PV.one c = p := by simpa using hj
      obtain ⟨u, g1, g2⟩ := h2 _ c hc
      exact ⟨u, by rw [Array.getElem?_append, if_neg (by omega), h]; exact g1, g2⟩
theorem P_callvd {o : Oper} {p : Prop} {f : FuncId} {x : Operand} {caps : List Cell} {xs : List Operand} {ats : Array TypeId} {ps : List PV} {r : AV} (ho : o.op = .call { callee := .value x, args := xs.toArray, argTypes := ats })
    (hc0 : Ev A p x (.pv (.one (.fn f caps)))) (hx : EvD A p xs ps) (hf : FnOK P f) (hc : p → ACalls P f (ps ++ caps.map PV.one) r) : PureOp P G A o p r := fun Φ β a w hs hp => by
  obtain ⟨us, e1, e2, e3⟩ := rel_fn (hs.ev hc0 hp)
  unfold Oper.wp
  rw [callv_run ho e1 hf]
  refine Calls.mono ((hc hp).calls Φ w _ hs.fits (args_more (by simp [evd_len hx]) (fun j q hq => ?_) e2 e3)) ?_
  · obtain ⟨x, h1, h2⟩ := evd_args hs hp hx j q hq
    exact ⟨a.eval x, by simp [h1], h2⟩
  · rintro e w' ⟨v, Φ', rfl, hv, hle, heq, hfit, hb⟩
    exact ⟨v, Φ', rfl, hv.ret, hle, heq, hfit, hb⟩
end
section
variable {P : Program} {G : Ghost} {n0 : Nat} {env : List (Nat × (Prop × AV))} {bl : List (Nat × Blk)} {p : Prop} {dst : Option Nat} {ty : TypeId} {pos : String} {after : Array Edge} {gd : Option (Nat × Bool)}
theorem Q_callvd {f : FuncId} {x : Operand} {caps : List Cell} {xs : List Operand} {ats : Array TypeId} {ps : List PV} {r : AV} (hc0 : Ev (St.mk n0 env bl) p x (.pv (.one (.fn f caps)))) (hx : EvD (St.mk n0 env bl) p xs ps) (hf : FnOK P f)
    (hc : p → ACalls P f (ps ++ caps.map PV.one) r) : PureOp P G (St.mk n0 env bl) ⟨dst, .call ⟨.value x, xs.toArray, ats⟩, ty, pos, after, gd⟩ p r := P_callvd rfl hc0 hx hf hc
end
end Lf
end
section
set_option linter.unusedVariables false
set_option linter.unusedSimpArgs false
set_option linter.unusedSectionVars false
namespace Lf
open Go Go.RowKit
open Go.ChangeMaps (setBlock)
open Go.MapKept (IsKey sameNow_of_keys run_checkKey run_findKey run_keyThatStays run_getObj_map run_setObj_map)
section
variable {P : Program} {G : Ghost} {A : St}
def EffF (P : Program) (G : Ghost) (A : St) (o : Oper) {σ : Type _} (F : σ → St) : Prop :=
  ∀ Φ β a w, Sat G Φ β A a w → o.wp P a w (fun a' w' => ∃ s Φ' β', Sat G Φ' β' (F s) a' w' ∧ Φ.le Φ') (fun _ _ _ => False)
theorem RG.effF {σ : Type _} {ops : Array Oper} {o : Oper} {rest : List Oper} {Q : St → Prop} {F : σ → St} (hg : o.guard = none) (hp : EffF P G A o F) (h : ∀ s, RG P G ops rest Q (F s)) : RG P G ops (o :: rest) Q A := fun Φ β a w hs Q' hq => by
  refine wpList_plain hg fun K hK => Oper.wp_mono' (hp Φ β a w hs) (fun a' w' ⟨s, Φ', β', hs', hle⟩ => hK _ _ ?_) (fun _ _ _ h => h.elim)
  exact h s Φ' β' a' w' hs' Q' fun A1 Φ1 β1 a1 w1 q s l => hq A1 Φ1 β1 a1 w1 q s (Frz.le_trans hle l)
theorem EffF.of_val {o : Oper} {σ : Type _} {F : σ → St} (h : ∀ Φ β a w, Sat G Φ β A a w → ∃ u w' s Φ' β', (execOp a.eval o).run P w = .ok (.value u) w' ∧ Sat G Φ' β' (F s) (a.put o.dst u) w' ∧ Φ.le Φ') : EffF P G A o F := fun Φ β a w hs => by
  obtain ⟨u, w', s, Φ', β', h1, h2, h3⟩ := h Φ β a w hs
  unfold Oper.wp
  rw [h1]
  exact ⟨s, Φ', β', h2, h3⟩
end
section
variable {P : Program} {G : Ghost} {A : St} {Φ : Frz} {β : Own} {a : Act} {w w' : World}
/-- The object of a name (a map, an iterator) is turned. -/
theorem Sat.turnO (hs : Sat G Φ β A a w) {n b cap : Nat} {B B' : Blk} (h1 : lk A.blks n = some B) (h2 : β n = some (b, cap)) (hob : B.ob = true) (hE : B'.E = B.E) (hz : B'.sz = B.sz)
    (hlen : B.E = mapTag → B'.rows.length = B.rows.length ∨ ∀ t q d, lk A.env t ≠ some (q, .itr d n)) (hg : w.grownBy w' (some b)) (hB : BlkRel Φ w' b cap B') :
    Sat G Φ β { A with blks := (n, B') :: A.blks } a w' := by
  obtain ⟨gB, gK, gP⟩ := hs.blk n B b cap h1 h2
  have hl : ∀ m, m ≠ n → lk ((n, B') :: A.blks) m = lk A.blks m := fun m hm => by rw [lk_cons, if_neg (Ne.symm hm)]
  have hl0 : lk ((n, B') :: A.blks) n = some B' := by rw [lk_cons, if_pos rfl]
  have hne : ∀ k, k ≠ b → some k ≠ some b := fun k h e => h (Option.some.inj e)
  refine ⟨⟨hg.os.trans hs.kept.os, hg.tape.trans hs.kept.tape, hg.output.trans hs.kept.output, Nat.le_trans hs.kept.size hg.size, fun k hk => ?_⟩, fun k c hk => ?_, hs.old, hs.siz, hs.dfr, fun t q v h => ?_, fun m C b' cap' k1 k2 => ?_, fun m C k1 k2 => ?_, fun m m' B1 B2 b' c1 c2 k1 k2 k3 k4 => ?_⟩
  · rw [hg.block k (Nat.lt_of_lt_of_le (G.lt k hk) hs.kept.size) (fun e => gK ((Option.some.inj e) ▸ hk))]; exact hs.kept.block k hk
  · obtain ⟨E, fz, h⟩ := hs.fits k c hk
    exact ⟨E, fz, by rw [hg.block k (Array.getElem?_eq_some_iff.1 h).1 (fun e => by have := Option.some.inj e; subst this; rw [gP] at hk; cases hk)]; exact h⟩
  · refine ⟨fun hq => ?_, (hs.env t q v h).2⟩
    have h3 := (hs.env t q v h).1 hq
    cases v with
    | pv p => exact h3
    | tup l => exact h3
    | top => trivial
    | addr m i off =>
      obtain ⟨b', cap', C, k1, k2, k3, k4⟩ := h3
      have e : m ≠ n := fun e => by
        subst e; rw [h1] at k2; obtain rfl := Option.some.inj k2; rw [k3] at hob; cases hob
      exact ⟨b', cap', C, k1, by rw [hl m e]; exact k2, k3, k4⟩
    | pin m b0 c0 f =>
      obtain ⟨C, k1, k2, k3, k4⟩ := h3
      have e : m ≠ n := fun e => by
        subst e; rw [h1] at k2; obtain rfl := Option.some.inj k2; rw [k3] at hob; cases hob
      exact ⟨C, k1, by rw [hl m e]; exact k2, k3, k4⟩
    | slc m =>
      obtain ⟨C, k2, k3, k4⟩ := h3
      have e : m ≠ n := fun e => by
        subst e; rw [h1] at k2; obtain rfl := Option.some.inj k2; rw [k3] at hob; cases hob
      exact ⟨C, by rw [hl m e]; exact k2, k3, k4⟩
    | mp m =>
      obtain ⟨b', cap', C, k1, k2, k3, k4⟩ := h3
      by_cases e : m = n
      · subst e
        rw [h1] at k2; obtain rfl := Option.some.inj k2
        exact ⟨b', cap', B', k1, hl0, hE.trans k3, k4⟩
      · exact ⟨b', cap', C, k1, by rw [hl m e]; exact k2, k3, k4⟩
    | itr d m =>
      obtain ⟨b', cap', C, M, c, k1, k2, k3, k4, k5, k6, k7, k8⟩ := h3
      have hC : ∃ C', lk ((n, B') :: A.blks) d = some C' ∧ C'.E = C.E ∧ C'.sz = C.sz := by
        by_cases e : d = n
        · subst e
          rw [h1] at k2; obtain rfl := Option.some.inj k2
          exact ⟨B', hl0, hE, hz⟩
        · exact ⟨C, by rw [hl d e]; exact k2, rfl, rfl⟩
      have hM : ∃ M', lk ((n, B') :: A.blks) m = some M' ∧ M'.E = M.E ∧ M'.rows.length = M.rows.length := by
        by_cases e : m = n
        · subst e
          rw [h1] at k5; obtain rfl := Option.some.inj k5
          rcases hlen k6 with hx | hx
          · exact ⟨B', hl0, hE, hx⟩
          · exact (hx t q d h).elim
        · exact ⟨M, by rw [hl m e]; exact k5, rfl, rfl⟩
      obtain ⟨C', c1, c2, c3⟩ := hC
      obtain ⟨M', m1, m2, m3⟩ := hM
      exact ⟨b', cap', C', M', c, k1, c1, c2.trans k3, by rw [c3]; exact k4, m1, m2.trans k6, m3.trans k7, k8⟩
  · by_cases e : m = n
    · subst e
      rw [hl0] at k1; obtain rfl := Option.some.inj k1
      rw [h2] at k2
      simp only [Option.some.injEq, Prod.mk.injEq] at k2
      obtain ⟨rfl, rfl⟩ := k2
      exact ⟨hB, gK, gP⟩
    · rw [hl m e] at k1
      obtain ⟨g1, g2, g3⟩ := hs.blk m C b' cap' k1 k2
      exact ⟨g1.keep Φ.le_refl (hg.block b' g1.lt (fun e2 => e (hs.inj m n C B b' cap' cap k1 h1 k2 (by rw [Option.some.inj e2]; exact h2)))), g2, g3⟩
  · by_cases e : m = n
    · subst e; rw [h2] at k2; cases k2
    · rw [hl m e] at k1; exact hs.vir m C k1 k2
  · have hx : ∀ m C, lk ((n, B') :: A.blks) m = some C → ∃ C', lk A.blks m = some C' := fun m C h => by
      by_cases e : m = n
      · subst e; exact ⟨B, h1⟩
      · rw [hl m e] at h; exact ⟨C, h⟩
    obtain ⟨C1, x1⟩ := hx m B1 k1
    obtain ⟨C2, x2⟩ := hx m' B2 k2
    exact hs.inj m m' C1 C2 b' c1 c2 x1 x2 k3 k4
def mput {α γ : Type} [DecidableEq α] : List (α × γ) → α → γ → List (α × γ)
  | [], k, v => [(k, v)]
  | (a, x) :: r, k, v => if a = k then (k, v) :: r else (a, x) :: mput r k v
def mget {α γ : Type} [DecidableEq α] : List (α × γ) → α → Option γ
  | [], _ => none
  | (a, x) :: r, k => if a = k then some x else mget r k
/-- Keys of one kind. -/
structure KeyK (P : Program) (kt : TypeId) {α : Type} [DecidableEq α] (kc : α → Cell) : Prop where
  und : ∃ d, P.underlying kt = some d ∧ ∀ (Φ : Frz) (v : Value) (a : α), Rel Φ v (kc a) → IsKey d v
  eq : ∀ (Φ : Frz) (u v : Value) (a b : α), Rel Φ u (kc a) → Rel Φ v (kc b) → (u = v ↔ a = b)
abbrev kI (n : Int) : Cell := .int .i64 n
theorem KeyK.int {P : Program} {kt : TypeId} (h : P.underlying kt = some (.int .i64)) : KeyK P kt kI where
  und := ⟨_, h, fun Φ v a h1 => by cases h1; rfl⟩
  eq := fun Φ u v a b h1 h2 => by cases h1; cases h2; simp
variable {α γ : Type} [DecidableEq α] {kc : α → Cell} {kt : TypeId}
/-- the rows of a map -/
def mrow (kc : α → Cell) (vc : γ → List Cell) (p : α × γ) : List Cell := kc p.1 :: vc p.2
def EntL (Φ : Frz) (kc : α → Cell) : List MapEntry → List (α × γ) → Prop
  | [], [] => True
  | e :: es, p :: M => Rel Φ e.key (kc p.1) ∧ EntL Φ kc es M
  | _, _ => False
theorem find_map (K : KeyK P kt kc) {v : Value} {k : α} (hv : Rel Φ v (kc k)) (y : γ) {d : TypeDesc} (hd : ∀ (u : Value) (b : α), Rel Φ u (kc b) → IsKey d u) : ∀ (es : List MapEntry) (M : List (α × γ)) (i : Nat), EntL Φ kc es M →
    (∃ j e x, Instr.findNow d v es i = some (some (i + j, e.val)) ∧ es[j]? = some e ∧ e.key = v ∧ M[j]? = some (k, x) ∧ mput M k y = M.set j (k, y) ∧ mget M k = some x) ∨ (Instr.findNow d v es i = some none ∧ mput M k y = M ++ [(k, y)] ∧ mget M k = none)
  | [], [], i, _ => .inr ⟨rfl, rfl, rfl⟩
  | e :: es, (a, x) :: M, i, ⟨h1, h2⟩ => by
    obtain ⟨r, hr, hiff⟩ := sameNow_of_keys (hd v k hv) (hd e.key a h1)
    have hea := K.eq Φ v e.key k a hv h1
    simp only [Instr.findNow, hr]
    by_cases he : k = a
    · subst he
      have hve := hea.2 rfl
      have : r = true := hiff.2 hve
      subst this
      exact .inl ⟨0, e, x, by simp, rfl, hve.symm, rfl, by simp [mput], by simp [mget]⟩
    · have he' : ¬ a = k := fun h => he h.symm
      have : r = false := by
        cases r with
        | false => rfl
        | true => exact (he (hea.1 (hiff.1 rfl))).elim
      subst this
      simp only [mput, mget, if_neg he']
      rcases find_map K hv y hd es M (i + 1) h2 with ⟨j, e', x', g1, g2, gk, g3, g4, g5⟩ | ⟨g1, g2, g3⟩
      · exact .inl ⟨j + 1, e', x', by rw [g1]; congr 3; omega, by simpa using g2, gk, by simpa using g3, by simp [g4], g5⟩
      · exact .inr ⟨g1, by simp [g2], g3⟩
/-- what a map's block says -/
structure MapAt (Φ : Frz) (w : World) (b z : Nat) (kc : α → Cell) (vc : γ → List Cell) (M : List (α × γ)) (es : Array MapEntry) : Prop where
  heap : w.heap[b]? = some (.map es es.size)
  size : es.size = M.length
  ent : ∀ (i : Nat) (e : MapEntry) (p : α × γ), es[i]? = some e → M[i]? = some p → e.born = i ∧ Rel Φ e.key (kc p.1) ∧ PRel Φ e.val (mapPV z (vc p.2))
theorem map_ob {z : Nat} {rows : List (List Cell)} : Blk.ob ⟨mapTag, z, rows⟩ = true := ob_map rfl
theorem tags : mapTag ≠ iterTag := by decide
theorem MapAt.of {vc : γ → List Cell} {b cap z : Nat} {M : List (α × γ)} (h : BlkRel Φ w b cap ⟨mapTag, z, M.map (mrow kc vc)⟩) : ∃ es, MapAt Φ w b z kc vc M es := by
  rcases h.obj map_ob with ⟨_, es, h1, h2, h3⟩ | ⟨h, _⟩
  · refine ⟨es, h1, by simpa using h2, fun i e p a b => ?_⟩
    obtain ⟨g1, k, vs, g2, g3, g4⟩ := h3 i e (mrow kc vc p) a (by simp [b])
    unfold mrow at g2
    injection g2 with e1 e2
    subst e1 e2
    exact ⟨g1, g3, g4⟩
  · exact absurd h tags
theorem MapAt.blk {vc : γ → List Cell} {b cap z : Nat} {M : List (α × γ)} {es : Array MapEntry} (h : MapAt Φ w b z kc vc M es) : BlkRel Φ w b cap ⟨mapTag, z, M.map (mrow kc vc)⟩ := by
  refine .inr ⟨map_ob, .inl ⟨rfl, es, h.heap, by simpa using h.size, fun i e r a b => ?_⟩⟩
  simp only [List.getElem?_map, Option.map_eq_some_iff] at b
  obtain ⟨p, hp, rfl⟩ := b
  obtain ⟨g1, g2, g3⟩ := h.ent i e p a hp
  exact ⟨g1, _, _, rfl, g2, g3⟩
theorem MapAt.entL {vc : γ → List Cell} {b z : Nat} {M : List (α × γ)} {es : Array MapEntry} (h : MapAt Φ w b z kc vc M es) : EntL Φ kc es.toList M := by
  have key : ∀ (l : List MapEntry) (M : List (α × γ)), l.length = M.length → (∀ (i : Nat) (e : MapEntry) (p : α × γ), l[i]? = some e → M[i]? = some p → Rel Φ e.key (kc p.1)) → EntL Φ kc l M := by
    intro l
    induction l with
    | nil => intro M hl _; cases M with
      | nil => trivial
      | cons p M => simp at hl
    | cons e l ih => intro M hl hg; cases M with
      | nil => simp at hl
      | cons p M => exact ⟨hg 0 e p rfl rfl, ih M (by simpa using hl) fun i e' p' a b => hg (i + 1) e' p' (by simpa using a) (by simpa using b)⟩
  exact key _ _ (by simpa using h.size) fun i e p a b => (h.ent i e p (by simpa using a) b).2.1
theorem run_find (K : KeyK P kt kc) {vc : γ → List Cell} {b z : Nat} {M : List (α × γ)} {es : Array MapEntry} (h : MapAt Φ w b z kc vc M es) {v : Value} {k : α} (hv : Rel Φ v (kc k)) (y : γ) :
    (∃ j e x, (Instr.findKey kt v es.toList).run P w = .ok (some (j, e.val)) w ∧ es[j]? = some e ∧ e.key = v ∧ M[j]? = some (k, x) ∧ mput M k y = M.set j (k, y) ∧ mget M k = some x) ∨ ((Instr.findKey kt v es.toList).run P w = .ok none w ∧ mput M k y = M ++ [(k, y)] ∧ mget M k = none) := by
  obtain ⟨d, h1, h2⟩ := K.und
  rcases find_map (P := P) (kt := kt) K hv y (d := d) (fun u b hu => h2 Φ u b hu) es.toList M 0 h.entL with ⟨j, e, x, g1, g2, gk, g3, g4, g5⟩ | ⟨g1, g2, g3⟩
  · exact .inl ⟨j, e, x, run_findKey h1 (by simpa using g1), by simpa using g2, gk, g3, g4, g5⟩
  · exact .inr ⟨run_findKey h1 g1, g2, g3⟩
variable {T : TT} (hT : TOK P T)
include hT
theorem E_makeMap {o : Oper} {t k e d z : Nat} {ti : TI} (ho : o.op = .makeMap t none) (hd : o.dst = some d) (hn : d < A.n) :
    EffOp P G A o ((A.bind d d ⟨mapTag, z, []⟩).set d True (.mp d)) := EffOp.of_val fun Φ β a w hs => by
  obtain ⟨h1, h2, h3⟩ := hs.new_ok
  have hrun : (execOp a.eval o).run P w = .ok (.value (.map (some w.heap.size))) (w.alloc (.map #[] 0)) :=
    exec_val (m := Instr.makeMap t none) (by simp only [execOp, ho]; rfl) (by simp [Instr.makeMap, newObj, Sem.run])
  refine ⟨_, _, Φ, bindOwn β d d w.heap.size 0, hrun, ?_, Φ.le_refl⟩
  rw [hd]
  have hb := hs.bind (w' := w.alloc (.map #[] 0)) (d := d) (n := d) (b := w.heap.size) (cap := 0) (B := ⟨mapTag, z, []⟩) (row := none) (w.grownBy_alloc _ none) (fun k e => by cases e)
    (.inr ⟨map_ob, .inl ⟨rfl, #[], heap_alloc_new w _, rfl, fun i e r h => by simp at h⟩⟩) h1 h2 (fun m B' cap' _ _ h => h3 m B' cap' h)
  exact hb.put hn ⟨w.heap.size, 0, ⟨mapTag, z, []⟩, by simp [bindOwn], by simp only [St.bind]; rw [lk_cons, if_pos rfl], rfl, rfl⟩
theorem exec_u {ρ : Operand → Value} {o : Oper} {m : Sem Unit} {w w' : World} (ho : execOp ρ o = (do m; pure .skip)) (h : m.run P w = .ok () w') : (execOp ρ o).run P w = .ok .skip w' := by
  rw [ho, Sem.run_bind, h]; rfl
/-- no iterator over n in a slot -/
def AV.isItr (n : Nat) : AV → Bool
  | .itr _ m => Nat.beq m n
  | _ => false
def noItr (n : Nat) : List (Nat × (Prop × AV)) → Bool
  | [] => true
  | (_, (_, v)) :: r => bif v.isItr n then false else noItr n r
omit hT in
theorem noItr_at {n : Nat} : ∀ {env : List (Nat × (Prop × AV))}, noItr n env = true → ∀ t q d, lk env t ≠ some (q, .itr d n)
  | [], _, t, q, d, h => by simp [lk] at h
  | (s, (q0, v0)) :: r, hn, t, q, d, h => by
    rw [lk_cons] at h
    rw [noItr] at hn
    split at h
    · simp only [Option.some.injEq, Prod.mk.injEq] at h
      obtain ⟨_, rfl⟩ := h
      simp [AV.isItr] at hn
    · refine noItr_at (env := r) ?_ t q d h
      cases hb : v0.isItr n with
      | true => rw [hb] at hn; cases hn
      | false => rw [hb] at hn; exact hn
theorem E_mapUpdate {o : Oper} {t e n z : Nat} {m x y : Operand} {ti : TI} {vc : γ → List Cell} {M : List (α × γ)} {k : α} {v : γ} (K : KeyK P kt kc) (ho : o.op = .mapUpdate t m x y) (hd : o.dst = none) (ht : T t = some ti) (hk : ti.kind = .map kt e)
    (hm : Ev A True m (.mp n)) (hl : lk A.blks n = some ⟨mapTag, z, M.map (mrow kc vc)⟩) (hx : Ev A True x (.pv (.one (kc k)))) (hy : Ev A True y (.pv (mapPV z (vc v)))) (hni : noItr n A.env = true) :
    EffOp P G A o { A with blks := (n, ⟨mapTag, z, (mput M k v).map (mrow kc vc)⟩) :: A.blks } := EffOp.of_skip hd fun Φ β a w hs => by
  have hu : P.underlying t = some (.map kt e) := by have := (hT _ _ ht).kind; rw [hk] at this; exact this
  obtain ⟨b, cap, B', h1, h2, h3, h4⟩ := hs.ev hm trivial
  rw [hl] at h2
  obtain rfl := Option.some.inj h2
  obtain ⟨gB, gK, gP⟩ := hs.blk n _ b cap hl h1
  obtain ⟨es, hM⟩ := MapAt.of gB
  have hkey : Rel Φ (a.eval x) (kc k) := hs.ev hx trivial
  have hval : PRel Φ (a.eval y) (mapPV z (vc v)) := hs.ev hy trivial
  obtain ⟨d, hd1, hd2⟩ := K.und
  have hck := run_checkKey (w := w) hd1 (hd2 Φ _ k hkey) false 9999
  have hlt : b < w.heap.size := (Array.getElem?_eq_some_iff.1 hM.heap).1
  have fin : ∀ es' : Array MapEntry, (∀ (w'' : World), w''.heap[b]? = some (.map es' es'.size) → MapAt Φ w'' b z kc vc (mput M k v) es') → (Instr.mapUpdate t (a.eval m) (a.eval x) (a.eval y)).run P w = .ok () (setBlock w b (.map es' es'.size)) →
      ∃ w' Φ' β', (execOp a.eval o).run P w = .ok .skip w' ∧ Sat G Φ' β' { A with blks := (n, ⟨mapTag, z, (mput M k v).map (mrow kc vc)⟩) :: A.blks } a w' ∧ Φ.le Φ' := by
    intro es' hE hrun
    refine ⟨_, Φ, β, exec_u hT (m := Instr.mapUpdate t (a.eval m) (a.eval x) (a.eval y)) (by simp only [execOp, ho]) hrun, ?_, Φ.le_refl⟩
    refine hs.turnO hl h1 map_ob rfl rfl (fun _ => .inr (noItr_at hni)) ⟨rfl, rfl, rfl, by simp [setBlock], fun i hi hne => ?_⟩ (hE _ ?_).blk
    · have hne' : b ≠ i := fun e => hne (by rw [e])
      simp [setBlock, Array.getElem?_setIfInBounds_ne hne']
    · simp [setBlock, hlt]
  rcases run_find K hM hkey v with ⟨j, e0, x0, g1, g2, gk, g3, g4, g5⟩ | ⟨g1, g2, g3⟩
  · refine fin (es.modify j fun e => { e with key := a.eval x, val := a.eval y }) (fun w'' hw => ⟨hw, by simp [g4, hM.size], fun i e p q1 q2 => ?_⟩) ?_
    · rw [g4, List.getElem?_set] at q2
      rw [Array.getElem?_modify] at q1
      by_cases hij : j = i
      · subst hij
        rw [if_pos rfl] at q1 q2
        have hjl : j < M.length := (List.getElem?_eq_some_iff.1 g3).1
        rw [if_pos hjl] at q2
        rw [g2] at q1
        simp only [Option.map_some, Option.some.injEq] at q1 q2
        subst q1 q2
        exact ⟨(hM.ent j e0 (k, x0) g2 g3).1, hkey, hval⟩
      · rw [if_neg hij] at q1 q2
        exact hM.ent i e p q1 q2
    · have hst : (Instr.keyThatStays (((es[j]?).map (·.key)).getD (a.eval x)) (a.eval x)).run P w = .ok (a.eval x) w := by
        rw [g2]; simp only [Option.map_some, Option.getD_some, gk]
        exact run_keyThatStays (hd2 Φ _ k hkey)
      simp only [Instr.mapUpdate, Sem.run_bind, run_underlying hu, Result.andThen_ok, h4, run_getObj_map hM.heap, hck, g1, hst, run_setObj_map _ hM.heap]
      simp [setBlock]
  · refine fin (es.push { key := a.eval x, val := a.eval y, born := es.size }) (fun w'' hw => ⟨hw, by simp [g2, hM.size], fun i e p q1 q2 => ?_⟩) ?_
    · rw [g2] at q2
      rw [Array.getElem?_push] at q1
      split at q1
      · rename_i hi
        simp only [Option.some.injEq] at q1
        subst q1
        rw [hi, hM.size, List.getElem?_append_right (Nat.le_refl _)] at q2
        simp at q2
        subst q2
        exact ⟨hi.symm, hkey, hval⟩
      · rename_i hi
        have hil := (Array.getElem?_eq_some_iff.1 q1).1
        rw [List.getElem?_append_left (by rw [← hM.size]; exact hil)] at q2
        exact hM.ent i e p q1 q2
    · simp only [Instr.mapUpdate, Sem.run_bind, run_underlying hu, Result.andThen_ok, h4, run_getObj_map hM.heap, hck, g1, run_setObj_map _ hM.heap]
      simp [setBlock]
theorem P_lookup {o : Oper} {p : Prop} {t e n z : Nat} {m x : Operand} {c : Bool} {ti te : TI} {vc : γ → List Cell} {M : List (α × γ)} {k : α} (K : KeyK P kt kc) (ho : o.op = .lookup t m x c) (ht : T t = some ti) (hk : ti.kind = .map kt e) (he : T e = some te)
    (hm : Ev A p m (.mp n)) (hl : lk A.blks n = some ⟨mapTag, z, M.map (mrow kc vc)⟩) (hx : Ev A p x (.pv (.one (kc k)))) {r : PV} (hr : (match mget M k with | some v => mapPV z (vc v) | none => te.zero) = r) :
    PureOp P G A o p (bif c then .tup [r, .one (.bool (mget M k).isSome)] else .pv r) := PureOp.val fun Φ β a w hs hp => by
  have hu : P.underlying t = some (.map kt e) := by have := (hT _ _ ht).kind; rw [hk] at this; exact this
  obtain ⟨b, cap, B', h1, h2, h3, h4⟩ := hs.ev hm hp
  rw [hl] at h2
  obtain rfl := Option.some.inj h2
  obtain ⟨gB, gK, gP⟩ := hs.blk n _ b cap hl h1
  obtain ⟨es, hM⟩ := MapAt.of gB
  have hkey : Rel Φ (a.eval x) (kc k) := hs.ev hx hp
  obtain ⟨d, hd1, hd2⟩ := K.und
  have hck := run_checkKey (w := w) hd1 (hd2 Φ _ k hkey) es.isEmpty 9999
  obtain ⟨i, hi, hisz, hib, zv, hzz, hrel⟩ := (hT e te he).info
  have hz : (zeroValue e).run P w = .ok zv w := by simp [zeroValue, typeInfo, hi, hzz]
  have fin : ∀ v ok, (Instr.lookup t (a.eval m) (a.eval x) c).run P w = .ok (if c then .tuple #[v, .bool ok] else v) w → PRel Φ v r → ok = (mget M k).isSome →
      ∃ u, (execOp a.eval o).run P w = .ok (.value u) w ∧ AVRel Φ β A.blks u (bif c then .tup [r, .one (.bool (mget M k).isSome)] else .pv r) := by
    intro v ok hrun hv hok
    refine ⟨_, exec_val (m := Instr.lookup t (a.eval m) (a.eval x) c) (by simp only [execOp, ho]) hrun, ?_⟩
    cases c with
    | false => exact hv
    | true =>
      refine ⟨_, rfl, rfl, fun j p hj => ?_⟩
      match j with
      | 0 => simp at hj; subst hj; exact ⟨_, rfl, hv⟩
      | 1 => simp at hj; subst hj; rw [← hok]; exact ⟨_, rfl, Rel.bool _⟩
      | j + 2 => simp at hj
  cases hg : mget M k with
  | some v =>
    rw [hg] at hr fin
    rcases run_find K hM hkey v with ⟨j, e0, x0, g1, g2, gk, g3, g4, g5⟩ | ⟨g1, g2, g3⟩
    · refine fin e0.val true ?_ ?_ rfl
      · simp only [Instr.lookup, Sem.run_bind, run_underlying hu, Result.andThen_ok, h4, run_getObj_map hM.heap, hck, g1, Sem.run_pure]
      · rw [hg] at g5
        obtain rfl := Option.some.inj g5
        rw [← hr]
        exact (hM.ent j e0 _ g2 g3).2.2
    · rw [g3] at hg; cases hg
  | none =>
    rw [hg] at hr fin
    by_cases hne : Nonempty γ
    · obtain ⟨y⟩ := hne
      rcases run_find K hM hkey y with ⟨j, e0, x0, g1, g2, gk, g3, g4, g5⟩ | ⟨g1, g2, g3⟩
      · rw [g5] at hg; cases hg
      · refine fin zv false ?_ ?_ rfl
        · simp only [Instr.lookup, Sem.run_bind, run_underlying hu, Result.andThen_ok, h4, run_getObj_map hM.heap, hck, g1, Sem.run_pure, hz]
        · rw [← hr]; exact hrel Φ
    · have hM0 : M = [] := by
        cases M with
        | nil => rfl
        | cons p M => exact (hne ⟨p.2⟩).elim
      subst hM0
      have hes : es = #[] := Array.eq_empty_of_size_eq_zero (by simpa using hM.size)
      subst hes
      refine fin zv false ?_ ?_ rfl
      · have g1 : (Instr.findKey kt (a.eval x) (#[] : Array MapEntry).toList).run P w = .ok none w := run_findKey hd1 rfl
        simp only [Instr.lookup, Sem.run_bind, run_underlying hu, Result.andThen_ok, h4, run_getObj_map hM.heap, hck, g1, Sem.run_pure, hz]
      · rw [← hr]; exact hrel Φ
end
end Lf
end
section
set_option linter.unusedVariables false
set_option linter.unusedSimpArgs false
set_option linter.unusedSectionVars false
namespace Lf
open Go Go.RowKit
section
variable {P : Program} {G : Ghost} {A : St} {ops : Array Oper} {fuel : Nat} {L : List Bool} {Q : St → Prop}
/-- What is left of a region of which L has been carried out, in whatever order. -/
def RA (P : Program) (G : Ghost) (ops : Array Oper) (fuel : Nat) (L : List Bool) (Q : St → Prop) (A : St) : Prop :=
  ∀ Φ β a w, Sat G Φ β A a w → ∀ Q' : Exit → Act → World → Prop, (∀ A' Φ' β' a' w', Q A' → Sat G Φ' β' A' a' w' → Φ.le Φ' → Q' .normal a' w') → wpAny P .any ops Q' fuel L.toArray a w
def RAll (P : Program) (G : Ghost) (ops : Array Oper) (fuel : Nat) (L : List Bool) (Q : St → Prop) (A : St) : List Nat → Prop
  | [] => True
  | i :: is => (∃ o, ops[i]? = some o ∧ RG P G ops [o] (RA P G ops fuel (L.set i true) Q) A) ∧ RAll P G ops fuel L Q A is
theorem RAll.nil : RAll P G ops fuel L Q A [] := trivial
theorem RAll.cons {i : Nat} {is : List Nat} {o : Oper} (ho : ops[i]? = some o) (h : RG P G ops [o] (RA P G ops fuel (L.set i true) Q) A) (h' : RAll P G ops fuel L Q A is) : RAll P G ops fuel L Q A (i :: is) := ⟨⟨o, ho, h⟩, h'⟩
theorem RAll.get : ∀ {is : List Nat}, RAll P G ops fuel L Q A is → ∀ i ∈ is, ∃ o, ops[i]? = some o ∧ RG P G ops [o] (RA P G ops fuel (L.set i true) Q) A
  | j :: is, h, i, hi => by
    rcases List.mem_cons.1 hi with rfl | hm
    · exact h.1
    · exact RAll.get h.2 i hm
theorem RA.done (hr : Region.ready .any ops L.toArray = []) (h : Q A) : RA P G ops 0 L Q A := fun Φ β a w hs Q' hq => ⟨hr, hq A Φ β a w h hs Φ.le_refl⟩
theorem RA.step {i : Nat} {is : List Nat} (hr : Region.ready .any ops L.toArray = i :: is) (h : RAll P G ops fuel L Q A (i :: is)) : RA P G ops (fuel + 1) L Q A := fun Φ β a w hs Q' hq => by
  refine ⟨fun e => (by rw [hr] at e; cases e), fun j hj => ?_⟩
  rw [hr] at hj
  obtain ⟨o, ho, hg⟩ := h.get j hj
  let Q'' : Exit → Act → World → Prop := fun e a' w' => match e with
    | .normal => wpAny P .any ops Q' fuel (L.set j true).toArray a' w'
    | e => Q' e a' w'
  have h1 := hg Φ β a w hs Q'' fun A1 Φ1 β1 a1 w1 q s l => q Φ1 β1 a1 w1 s Q' fun A2 Φ2 β2 a2 w2 q2 s2 l2 => hq A2 Φ2 β2 a2 w2 q2 s2 (Frz.le_trans l l2)
  unfold wpList at h1
  unfold wpOp
  simp only [ho]
  have hk : ∀ a' w', wpList P ops Q'' [] a' w' → wpAny P .any ops Q' fuel (L.toArray.setIfInBounds j true) a' w' := fun a' w' h => by
    have : L.toArray.setIfInBounds j true = (L.set j true).toArray := by simp
    rw [this]; exact h
  split
  · rename_i hw
    rw [if_pos hw] at h1
    rcases h1 with h1 | ⟨h1, a2, w2, h2⟩
    · refine .inl ?_
      unfold Oper.wp at *
      revert h1
      generalize (execOp a.eval o).run P w = r
      intro h1
      cases r with
      | ok n w' =>
        cases n <;> simp only [Oper.upon] at h1 ⊢ <;>
          first
            | exact hk _ _ h1
            | exact Calls.mono h1 (fun e w'' he => by
                cases e <;> first
                  | exact hk _ _ he
                  | exact he
                  | (obtain ⟨a0, w0, h0⟩ := he; exact ⟨a0, w0, h0⟩))
            | exact Rows.mono h1 (fun _ _ he => hk _ _ he)
      | halt x w' => cases x <;> simp only [Oper.upon] at h1 ⊢ <;> exact h1
    · exact .inr ⟨h1, a2, w2, h2⟩
  · rename_i hw
    rw [if_neg hw] at h1
    exact hk _ _ h1
theorem W.drawA {id : Nat} {l : List Oper} {L : List Bool} {Q : Exit → St → Prop} (hm : P.follows .mixedOrders = true) (hL : List.replicate l.length false = L) (h : RA P G l.toArray l.length L (Q .normal) A) : W P G (.region id l.toArray true) Q A := fun Φ β a w hs => by
  refine wp_region_any hm ?_
  have hsz : l.toArray.size = l.length := by simp
  rw [hsz]
  have e : Array.replicate l.length false = L.toArray := by rw [← hL]; simp
  rw [e]
  exact h Φ β a { w with drawn := w.drawn + 1 } ⟨hs.kept.drew, hs.fits, hs.old, hs.siz, hs.dfr, hs.env, hs.blk, hs.vir, hs.inj⟩ _ fun A' Φ' β' a' w' q s le => ⟨A', Φ', β', q, s, le⟩
end
section
variable {P : Program} {G : Ghost} {A : St} {Φ : Frz} {β : Own} {a : Act} {w w' : World}
structure OCalls (P : Program) (f : FuncId) (args : List PV) (E sz : Nat) (rows : List (List Cell)) : Prop where
  fn : FnOK P f
  calls : ∀ (Φ : Frz) (w : World) (vs : Array Value), Fits Φ w → ArgsRel Φ vs args → Calls P f vs w (fun e w' => ∃ v Φ', e = .returned v ∧ ((v = .slice none 0 0 ∧ rows = []) ∨ ∃ b cap, v = .slice (some ⟨b, 0, none⟩) rows.length cap ∧ w.heap.size ≤ b ∧ BlkRel Φ' w' b cap ⟨E, sz, rows⟩ ∧ Φ' b = none) ∧
    Φ.le Φ' ∧ (∀ b, b < w.heap.size → Φ' b = Φ b) ∧ Fits Φ' w' ∧ Below w.heap.size w w')
/-- the end of such a function -/
def FinO (t E sz : Nat) (rows : List (List Cell)) (e : Exit) (A : St) : Prop := (e = .normal ∨ e = .ret) ∧ ((lk A.env t = some (True, .pv (.one .slnil)) ∧ rows = []) ∨ ∃ n, lk A.env t = some (True, .slc n) ∧ lk A.blks n = some ⟨E, sz, rows⟩)
theorem FinO.ret {t E sz n : Nat} {rows rows' : List (List Cell)} (h : lk A.env t = some (True, .slc n)) (hl : lk A.blks n = some ⟨E, sz, rows'⟩) (hr : rows' = rows) : FinO t E sz rows .ret A := ⟨.inr rfl, .inr ⟨n, h, hr ▸ hl⟩⟩
theorem FinO.nil {t E sz : Nat} {rows : List (List Cell)} (h : lk A.env t = some (True, .pv (.one .slnil))) (hr : rows = []) : FinO t E sz rows .ret A := ⟨.inr rfl, .inl ⟨h, hr⟩⟩
theorem sat_init {G : Ghost} {f : FuncId} {fn : Func} {args : List PV} {Φ : Frz} {w : World} {vs : Array Value} (hG : G = { w0 := w, K := fun b => b < w.heap.size, F0 := Φ, lt := fun b h => h }) (hfit : Fits Φ w) (harg : ArgsRel Φ vs args) :
    Sat G Φ (fun _ => none) (St.init fn.ntmps args) { tmps := vs ++ Array.replicate (fn.ntmps - vs.size) undef, defers := [] } w := by
  subst hG
  refine ⟨⟨rfl, rfl, rfl, Nat.le_refl _, fun b _ => rfl⟩, hfit, fun b _ => rfl, by simp [St.init]; omega, rfl, fun t q v hl => ?_, fun n B b cap h1 => by simp [St.init, lk] at h1, fun n B h1 => by simp [St.init, lk] at h1, fun n n' B B' b cap cap' h1 => by simp [St.init, lk] at h1⟩
  obtain ⟨_, rfl, p, hp, rfl⟩ := lk_init args 0 t q v hl
  refine ⟨fun _ => ?_, fun hq => (hq trivial).elim⟩
  obtain ⟨v, h1, h2⟩ := harg.2 (t - 0) p hp
  have hlt := (Array.getElem?_eq_some_iff.1 h1).1
  have : (vs ++ Array.replicate (fn.ntmps - vs.size) undef).getD t undef = v := by
    rw [Array.getD_eq_getD_getElem?, Array.getElem?_append_left (by simpa using hlt)]
    simp only [Nat.sub_zero] at h1
    rw [h1]; rfl
  show PRel Φ _ p
  rw [this]; exact h2
theorem OCalls.of_W {f : FuncId} {fn : Func} {c : Code} {args : List PV} {E sz : Nat} {rows : List (List Cell)} (t n : Nat) (hf : P.funcs[f]? = some fn) (hn : (fn.name == "runtime.NumGoroutine") = false) (hb : fn.body = some c)
    (hr : fn.results = #[.tmp t]) (hnt : fn.ntmps = n) (hE : Nat.ble mapTag E = false) (h : ∀ G, W P G c (FinO t E sz rows) (St.init n args)) : OCalls P f args E sz rows where
  fn := ⟨fn, hf, hn, by rw [hb]; rfl⟩
  calls := fun Φ w vs hfit harg => by
    subst hnt
    refine calls_of_wp hf hb (wp_mono (h _ Φ (fun _ => none) _ w (sat_init (f := f) rfl hfit harg)) fun e a' w' ⟨A', Φ', β', ⟨he, hres⟩, hs, hle⟩ => ?_)
    have hv : a'.defers = [] ∧ ∃ v, (results fn a'.tmps).run P w' = .ok v w' ∧ (∃ v1 Φ'', Ending.returned v = .returned v1 ∧ ((v1 = .slice none 0 0 ∧ rows = []) ∨ ∃ b cap, v1 = .slice (some ⟨b, 0, none⟩) rows.length cap ∧ w.heap.size ≤ b ∧ BlkRel Φ'' w' b cap ⟨E, sz, rows⟩ ∧ Φ'' b = none) ∧
        Φ.le Φ'' ∧ (∀ b, b < w.heap.size → Φ'' b = Φ b) ∧ Fits Φ'' w' ∧ Below w.heap.size w w') := by
      refine ⟨hs.dfr, _, run_results (ts := [t]) (by rw [hr]; rfl) _ _, _, Φ', rfl, ?_, hle, fun b hb => hs.old b hb, hs.fits, ⟨hs.kept.os, hs.kept.tape, hs.kept.output, hs.kept.size, hs.kept.block⟩⟩
      show ((a'.tmps.getD t undef) = _ ∧ _) ∨ _
      rcases hres with ⟨h1, h2⟩ | ⟨m, h1, h2⟩
      · have h3 : Rel Φ' (a'.tmps.getD t undef) .slnil := (hs.env t True _ h1).1 trivial
        refine .inl ⟨?_, h2⟩
        cases hv : a'.tmps.getD t undef <;> rw [hv] at h3 <;> cases h3
        rfl
      · obtain ⟨B, k1, k2, k3⟩ := (hs.env t True _ h1).1 trivial
        rw [h2] at k1
        obtain rfl := Option.some.inj k1
        rcases k3 with ⟨k3, k4⟩ | ⟨b, cap, k3, k4⟩
        · exact .inl ⟨k4, hs.vir m _ h2 k3⟩
        · obtain ⟨g1, g2, g3⟩ := hs.blk m _ b cap h2 k3
          refine .inr ⟨b, cap, k4, ?_, g1, g3⟩
          exact Nat.le_of_not_lt g2
    rcases he with rfl | rfl
    · exact hv
    · exact hv
theorem Sat.below {Φ' : Frz} (hs : Sat G Φ β A a w) (hle : Φ.le Φ') (heq : ∀ b, b < w.heap.size → Φ' b = Φ b) (hf : Fits Φ' w') (hb : Below w.heap.size w w') : Sat G Φ' β A a w' where
  kept := hs.kept.below hb
  fits := hf
  old := fun b hk => (heq b (Nat.lt_of_lt_of_le (G.lt b hk) hs.kept.size)).trans (hs.old b hk)
  siz := hs.siz
  dfr := hs.dfr
  env := fun t q v h => ⟨fun hq => ((hs.env t q v h).1 hq).mono hle, (hs.env t q v h).2⟩
  blk := fun n B b cap h1 h2 => by
    obtain ⟨h3, h4, h5⟩ := hs.blk n B b cap h1 h2
    exact ⟨blkRel_below hle hb h3, h4, by rw [heq b h3.lt]; exact h5⟩
  vir := hs.vir
  inj := hs.inj
theorem E_callo {o : Oper} {f : FuncId} {xs : List Operand} {ats : Array TypeId} {ps : List PV} {E sz d : Nat} {rows : List (List Cell)} (ho : o.op = .call { callee := .value (.func f), args := xs.toArray, argTypes := ats }) (hd : o.dst = some d) (hn : d < A.n)
    (hx : EvD A True xs ps) (hE : Nat.ble mapTag E = false) (hc : OCalls P f ps E sz rows) : EffOp P G A o ((A.bind d d ⟨E, sz, rows⟩).set d True (.slc d)) := fun Φ β a w hs => by
  unfold Oper.wp
  rw [call_run ho hc.fn]
  refine Calls.mono (hc.calls Φ w _ hs.fits ⟨by simp [evd_len hx], fun j q hq => ?_⟩) ?_
  · obtain ⟨x, h1, h2⟩ := evd_args hs trivial hx j q hq
    exact ⟨a.eval x, by simp [h1], h2⟩
  · rintro e w' ⟨v, Φ', rfl, hv, hle, heq, hfit, hb⟩
    have hs' := hs.below hle heq hfit hb
    show ∃ Φ'' β', Sat G Φ'' β' _ (a.put o.dst v) w' ∧ Φ.le Φ''
    rw [hd]
    rcases hv with ⟨rfl, rfl⟩ | ⟨b, cap, rfl, h1, h2, h3⟩
    · exact ⟨Φ', _, (hs'.bindNil (d := d) (n := d) (E := E) (sz := sz)).putNil hn (by simp only [St.bind]; rw [lk_cons, if_pos rfl]) (by exact hE) (by simp), hle⟩
    · have hbd := hs'.bind (w' := w') (d := d) (n := d) (b := b) (cap := cap) (B := ⟨E, sz, rows⟩) (row := none) ⟨rfl, rfl, rfl, Nat.le_refl _, fun _ _ _ => rfl⟩ (fun k e => by cases e) h2
        (fun hk => by have := G.lt b hk; have := hs.kept.size; omega) h3 (fun m B' cap' _ _ q1 q2 => by have := (hs.blk m B' b cap' q1 q2).1.lt; omega)
      exact ⟨Φ', _, hbd.putSlc hn (by simp only [St.bind]; rw [lk_cons, if_pos rfl]) (by exact hE) bindOwn_self, hle⟩
end
section
variable {P : Program} {G : Ghost} {ops : Array Oper} {rest : List Oper} {Q : St → Prop} {n0 : Nat} {env : List (Nat × (Prop × AV))} {bl : List (Nat × Blk)} {p : Prop} {dst : Option Nat} {ty : TypeId} {pos : String} {after : Array Edge} {gd : Option (Nat × Bool)}
def EvC (A : St) (p : Prop) : List Operand → List Cell → Prop
  | [], [] => True
  | x :: xs, c :: cs => Ev A p x (.pv (.one c)) ∧ EvC A p xs cs
  | _, _ => False
theorem EvC.nil {A : St} : EvC A p [] [] := trivial
theorem EvC.cons {A : St} {x : Operand} {c : Cell} {xs : List Operand} {cs : List Cell} (h : Ev A p x (.pv (.one c))) (h' : EvC A p xs cs) : EvC A p (x :: xs) (c :: cs) := ⟨h, h'⟩
theorem evc_get {A : St} {Φ : Frz} {β : Own} {a : Act} {w : World} (hs : Sat G Φ β A a w) (hp : p) : ∀ {xs : List Operand} {cs : List Cell}, EvC A p xs cs → xs.length = cs.length ∧ ∀ (j : Nat) (c : Cell), cs[j]? = some c → ∃ x, xs[j]? = some x ∧ Rel Φ (a.eval x) c
  | [], [], _ => ⟨rfl, fun j c h => by simp at h⟩
  | x :: xs, c :: cs, ⟨h1, h2⟩ => by
    obtain ⟨g1, g2⟩ := evc_get hs hp h2
    refine ⟨by simp [g1], fun j d hj => ?_⟩
    cases j with
    | zero => simp at hj; subst hj; exact ⟨x, rfl, hs.ev h1 hp⟩
    | succ j => simpa using g2 j d (by simpa using hj)
/-- a function value that holds data -/
theorem Q_makeFunc {f : Nat} {xs : List Operand} {cs : List Cell} (hx : EvC (St.mk n0 env bl) p xs cs) : PureOp P G (St.mk n0 env bl) ⟨dst, .makeFunc (.func f) #[] xs.toArray, ty, pos, after, gd⟩ p (.pv (.one (.fn f cs))) := PureOp.val fun Φ β a w hs hp => by
  obtain ⟨h1, h2⟩ := evc_get hs hp hx
  refine ⟨.func (.func f) #[] (xs.map a.eval).toArray, by simp [execOp, Instr.makeFunc], Rel.fn f cs _ (fun j => ((xs.map a.eval)[j]?).getD .nilFunc) (by simp [h1]) (fun j c hj => ?_) (fun j c hj => ?_)⟩
  · obtain ⟨x, k1, k2⟩ := h2 j c hj
    simp [k1]
  · obtain ⟨x, k1, k2⟩ := h2 j c hj
    simp [k1, k2]
theorem S_callo {d E sz : Nat} {rows : List (List Cell)} {f : FuncId} {xs : List Operand} {ats : Array TypeId} {ps : List PV} (hc : OCalls P f ps E sz rows) (hE : Nat.ble mapTag E = false) (hfr : lk bl d = none) (hn : Nat.blt d n0 = true) (hx : EvD (St.mk n0 env bl) True xs ps)
    (h : RG P G ops rest Q (St.mk n0 ((d, (True, .slc d)) :: env) ((d, ⟨E, sz, rows⟩) :: bl))) : RG P G ops (⟨some d, .call ⟨.value (.func f), xs.toArray, ats⟩, ty, pos, after, none⟩ :: rest) Q (St.mk n0 env bl) :=
  RG.eff rfl (EffOp.fresh hfr (E_callo rfl rfl (blt_lt hn) hx hE hc)) h
variable {T : TT} (hT : TOK P T)
include hT
/-- a slice that came in, held against nil -/
theorem S_isnil {t e d yt : Nat} {x : Operand} {ti : TI} {rows : List (List Cell)} (ht : T t = some ti) (hk : ti.kind = .slice e) (hn : Nat.blt d n0 = true) (hx : Ev (St.mk n0 env bl) True x (.pv (.one (.sl rows))))
    (h : ∀ b : Bool, (b = true → rows = []) → RG P G ops rest Q (St.mk n0 ((d, (True, .pv (.one (.bool b)))) :: env) bl)) : RG P G ops (⟨some d, .binOp .eql t x (.const (.slice none 0 0)) yt, ty, pos, after, none⟩ :: rest) Q (St.mk n0 env bl) := by
  refine RG.effF (F := fun s : { b : Bool // b = true → rows = [] } => St.mk n0 ((d, (True, .pv (.one (.bool s.1)))) :: env) bl) rfl (EffF.of_val fun Φ β a w hs => ?_) fun s => h s.1 s.2
  have hu : P.underlying t = some (.slice e) := by have := (hT _ _ ht).kind; rw [hk] at this; exact this
  have hr : Rel Φ (a.eval x) (.sl rows) := hs.ev hx trivial
  obtain ⟨ad, len, cap, hv, hz⟩ : ∃ ad len cap, a.eval x = .slice ad len cap ∧ (ad.isNone = true → rows = []) := by
    generalize a.eval x = v at hr
    cases hr with
    | sl0 => exact ⟨_, _, _, rfl, fun _ => rfl⟩
    | slE a cap => exact ⟨_, _, _, rfl, fun h => by cases h⟩
    | sl b off len cap sz rows f => exact ⟨_, _, _, rfl, fun h => by cases h⟩
  refine ⟨.bool ad.isNone, w, ⟨ad.isNone, hz⟩, Φ, β, exec_val (m := do eqGuard .eql t x (.const (.slice none 0 0)) (a.eval x) (a.eval (.const (.slice none 0 0))); binOp .eql t (a.eval x) (a.eval (.const (.slice none 0 0)))) (by simp only [execOp]) ?_, hs.put (blt_lt hn) (Rel.bool _), Φ.le_refl⟩
  have e1 : a.eval (.const (.slice none 0 0)) = .slice none 0 0 := rfl
  rw [hv, e1]
  have e2 : eqGuard .eql t x (.const (.slice none 0 0)) (.slice ad len cap) (.slice none 0 0) = pure () := rfl
  rw [e2]
  simp only [pure_bind, binOp]
  have e3 : (Op.equal t (.slice ad len cap) (.slice none 0 0)).run P w = .ok ad.isNone w := by
    rw [Op.equal, Op.maxDepth, Op.equalIn]; cases ad <;> simp [run_underlying hu]
  simp [e3]
theorem S_makeMap (z : Nat) {t d : Nat} (hfr : lk bl d = none) (hn : Nat.blt d n0 = true)
    (h : RG P G ops rest Q (St.mk n0 ((d, (True, .mp d)) :: env) ((d, ⟨mapTag, z, []⟩) :: bl))) : RG P G ops (⟨some d, .makeMap t none, ty, pos, after, none⟩ :: rest) Q (St.mk n0 env bl) :=
  RG.eff rfl (EffOp.fresh hfr (E_makeMap (hT := hT) (t := t) (k := 0) (e := 0) (ti := ⟨.other, 0, 0, default⟩) rfl rfl (blt_lt hn))) h
variable {α γ : Type} [DecidableEq α] {kc : α → Cell} {kt : TypeId}
theorem S_mapUpdate (K : KeyK P kt kc) {t e n z : Nat} {m x y : Operand} {ti : TI} {vc : γ → List Cell} {M : List (α × γ)} {k : α} {v : γ} (hm : Ev (St.mk n0 env bl) True m (.mp n)) (hl : lk bl n = some ⟨mapTag, z, M.map (mrow kc vc)⟩)
    (hx : Ev (St.mk n0 env bl) True x (.pv (.one (kc k)))) (hy : Ev (St.mk n0 env bl) True y (.pv (mapPV z (vc v)))) (ht : T t = some ti) (hk : ti.kind = .map kt e) (hni : noItr n env = true)
    (h : RG P G ops rest Q (St.mk n0 env ((n, ⟨mapTag, z, (mput M k v).map (mrow kc vc)⟩) :: bl))) : RG P G ops (⟨none, .mapUpdate t m x y, ty, pos, after, none⟩ :: rest) Q (St.mk n0 env bl) :=
  RG.eff rfl (E_mapUpdate hT K rfl rfl ht hk hm hl hx hy hni) h
theorem Q_lookup (K : KeyK P kt kc) {t e n z : Nat} {m x : Operand} {c : Bool} {ti te : TI} {vc : γ → List Cell} {M : List (α × γ)} {k : α} {r : PV} (hm : Ev (St.mk n0 env bl) p m (.mp n)) (hl : lk bl n = some ⟨mapTag, z, M.map (mrow kc vc)⟩)
    (hx : Ev (St.mk n0 env bl) p x (.pv (.one (kc k)))) (ht : T t = some ti) (hk : ti.kind = .map kt e) (he : T e = some te) (hr : (match mget M k with | some v => mapPV z (vc v) | none => te.zero) = r) :
    PureOp P G (St.mk n0 env bl) ⟨dst, .lookup t m x c, ty, pos, after, gd⟩ p (bif c then .tup [r, .one (.bool (mget M k).isSome)] else .pv r) := P_lookup hT K rfl ht hk he hm hl hx hr
end
/-- arguments, and behind them what a function value holds -/
def EvA (A : St) (p : Prop) (caps : List Cell) : List Operand → List PV → Prop
  | [], qs => qs = caps.map PV.one
  | x :: xs, q :: qs => (∃ r, Ev A p x (.pv r) ∧ PSub r q) ∧ EvA A p caps xs qs
  | _, _ => False
theorem EvA.nil {A : St} {p : Prop} {caps : List Cell} {qs : List PV} (h : qs = caps.map PV.one) : EvA A p caps [] qs := h
theorem EvA.cons {A : St} {p : Prop} {caps : List Cell} {x : Operand} {xs : List Operand} {q r : PV} {qs : List PV} (h : Ev A p x (.pv r)) (hs : PSub r q) (ht : EvA A p caps xs qs) : EvA A p caps (x :: xs) (q :: qs) := ⟨⟨r, h, hs⟩, ht⟩
theorem EvA.split {A : St} {p : Prop} {caps : List Cell} : ∀ {xs : List Operand} {as1 : List PV}, EvA A p caps xs as1 → ∃ ps, as1 = ps ++ caps.map PV.one ∧ EvD A p xs ps
  | [], qs, h => ⟨[], h, trivial⟩
  | x :: xs, q :: qs, ⟨h1, h2⟩ => by
    obtain ⟨ps, rfl, h3⟩ := EvA.split h2
    exact ⟨q :: ps, rfl, h1, h3⟩
theorem Q_callvA {P : Program} {G : Ghost} {n0 : Nat} {env : List (Nat × (Prop × AV))} {bl : List (Nat × Blk)} {p : Prop} {dst : Option Nat} {ty : TypeId} {pos : String} {after : Array Edge} {gd : Option (Nat × Bool)} {f : FuncId} {x : Operand} {caps : List Cell} {xs : List Operand} {ats : Array TypeId} {as1 : List PV} {r : AV}
    (hc : ACalls P f as1 r) (hc0 : Ev (St.mk n0 env bl) p x (.pv (.one (.fn f caps)))) (hx : EvA (St.mk n0 env bl) p caps xs as1) : PureOp P G (St.mk n0 env bl) ⟨dst, .call ⟨.value x, xs.toArray, ats⟩, ty, pos, after, gd⟩ p r := by
  obtain ⟨ps, rfl, h⟩ := hx.split
  exact Q_callvd hc0 h hc.fn fun _ => hc
theorem nth_mem {α : Type} [Inhabited α] {l : List α} {k : Nat} (h : k < l.length) : nth l k ∈ l := by
  rw [nth, List.getD, List.getElem?_eq_getElem h]; exact List.getElem_mem h
end Lf
end
section
set_option maxRecDepth 100000
set_option maxHeartbeats 4000000
namespace Go.Proofs.Ytgpcmgjdkefdjaa
open Lf
def TYL : List (Nat × Lf.TI) := [
  (1, ⟨.func, 1, 8, .one (.nilf)⟩),
  (2, ⟨.int .i64, 1, 8, .one (.int .i64 0)⟩),
  (3, ⟨.int .i64, 1, 8, .one (.int .i64 0)⟩),
  (4, ⟨.bool, 1, 1, .one (.bool false)⟩),
  (5, ⟨.int .u8, 1, 1, .one (.int .u8 0)⟩),
  (6, ⟨.int .u8, 1, 1, .one (.int .u8 0)⟩),
  (7, ⟨.struct [(0, 2), (1, 3), (2, 4), (3, 6)], 4, 24, .agg [.int .i64 0, .int .i64 0, .bool false, .int .u8 0]⟩),
  (8, ⟨.struct [(0, 2), (1, 3), (2, 4), (3, 6)], 4, 24, .agg [.int .i64 0, .int .i64 0, .bool false, .int .u8 0]⟩),
  (9, ⟨.string, 1, 16, .one (.str [])⟩),
  (10, ⟨.string, 1, 16, .one (.str [])⟩),
  (11, ⟨.string, 1, 16, .one (.str [])⟩),
  (12, ⟨.int .u64, 1, 8, .one (.int .u64 0)⟩),
  (13, ⟨.struct [(0, 9), (1, 12)], 2, 24, .agg [.str [], .int .u64 0]⟩),
  (14, ⟨.struct [(0, 9), (1, 12)], 2, 24, .agg [.str [], .int .u64 0]⟩),
  (15, ⟨.ptr 104, 1, 8, .one (.nilp)⟩),
  (16, ⟨.ptr 107, 1, 8, .one (.nilp)⟩),
  (17, ⟨.ptr 117, 1, 8, .one (.nilp)⟩),
  (18, ⟨.struct [(0, 17)], 1, 8, .agg [.nilp]⟩),
  (19, ⟨.struct [(0, 17)], 1, 8, .agg [.nilp]⟩),
  (20, ⟨.iface, 1, 16, .one (.nili)⟩),
  (21, ⟨.int .i32, 1, 4, .one (.int .i32 0)⟩),
  (22, ⟨.slice 44, 1, 24, .one (.slnil)⟩),
  (23, ⟨.slice 31, 1, 24, .one (.slnil)⟩),
  (24, ⟨.slice 23, 1, 24, .one (.slnil)⟩),
  (25, ⟨.func, 1, 8, .one (.nilf)⟩),
  (26, ⟨.func, 1, 8, .one (.nilf)⟩),
  (27, ⟨.slice 3, 1, 24, .one (.slnil)⟩),
  (28, ⟨.struct [(0, 3), (1, 27)], 2, 32, .agg [.int .i64 0, .slnil]⟩),
  (29, ⟨.struct [(0, 3), (1, 27)], 2, 32, .agg [.int .i64 0, .slnil]⟩),
  (30, ⟨.struct [(0, 29), (2, 29)], 4, 64, .agg [.int .i64 0, .slnil, .int .i64 0, .slnil]⟩),
  (31, ⟨.struct [(0, 29), (2, 29)], 4, 64, .agg [.int .i64 0, .slnil, .int .i64 0, .slnil]⟩),
  (32, ⟨.int .i64, 1, 8, .one (.int .i64 0)⟩),
  (34, ⟨.func, 1, 8, .one (.nilf)⟩),
  (36, ⟨.func, 1, 8, .one (.nilf)⟩),
  (37, ⟨.func, 1, 8, .one (.nilf)⟩),
  (38, ⟨.func, 1, 8, .one (.nilf)⟩),
  (39, ⟨.func, 1, 8, .one (.nilf)⟩),
  (40, ⟨.func, 1, 8, .one (.nilf)⟩),
  (41, ⟨.func, 1, 8, .one (.nilf)⟩),
  (42, ⟨.func, 1, 8, .one (.nilf)⟩),
  (43, ⟨.struct [(0, 3), (1, 3)], 2, 16, .agg [.int .i64 0, .int .i64 0]⟩),
  (44, ⟨.struct [(0, 3), (1, 3)], 2, 16, .agg [.int .i64 0, .int .i64 0]⟩),
  (45, ⟨.func, 1, 8, .one (.nilf)⟩),
  (46, ⟨.func, 1, 8, .one (.nilf)⟩),
  (47, ⟨.func, 1, 8, .one (.nilf)⟩),
  (48, ⟨.int .u16, 1, 2, .one (.int .u16 0)⟩),
  (49, ⟨.func, 1, 8, .one (.nilf)⟩),
  (50, ⟨.func, 1, 8, .one (.nilf)⟩),
  (52, ⟨.func, 1, 8, .one (.nilf)⟩),
  (53, ⟨.func, 1, 8, .one (.nilf)⟩),
  (54, ⟨.func, 1, 8, .one (.nilf)⟩),
  (55, ⟨.func, 1, 8, .one (.nilf)⟩),
  (56, ⟨.func, 1, 8, .one (.nilf)⟩),
  (57, ⟨.func, 1, 8, .one (.nilf)⟩),
  (58, ⟨.func, 1, 8, .one (.nilf)⟩),
  (59, ⟨.func, 1, 8, .one (.nilf)⟩),
  (61, ⟨.func, 1, 8, .one (.nilf)⟩),
  (62, ⟨.func, 1, 8, .one (.nilf)⟩),
  (63, ⟨.func, 1, 8, .one (.nilf)⟩),
  (64, ⟨.func, 1, 8, .one (.nilf)⟩),
  (65, ⟨.func, 1, 8, .one (.nilf)⟩),
  (66, ⟨.map 3 3, 1, 8, .one (.nilm)⟩),
  (67, ⟨.func, 1, 8, .one (.nilf)⟩),
  (68, ⟨.func, 1, 8, .one (.nilf)⟩),
  (70, ⟨.func, 1, 8, .one (.nilf)⟩),
  (71, ⟨.func, 1, 8, .one (.nilf)⟩),
  (72, ⟨.func, 1, 8, .one (.nilf)⟩),
  (73, ⟨.func, 1, 8, .one (.nilf)⟩),
  (74, ⟨.func, 1, 8, .one (.nilf)⟩),
  (75, ⟨.func, 1, 8, .one (.nilf)⟩),
  (76, ⟨.func, 1, 8, .one (.nilf)⟩),
  (77, ⟨.func, 1, 8, .one (.nilf)⟩),
  (78, ⟨.func, 1, 8, .one (.nilf)⟩),
  (79, ⟨.func, 1, 8, .one (.nilf)⟩),
  (81, ⟨.func, 1, 8, .one (.nilf)⟩),
  (82, ⟨.slice 22, 1, 24, .one (.slnil)⟩),
  (83, ⟨.func, 1, 8, .one (.nilf)⟩),
  (84, ⟨.func, 1, 8, .one (.nilf)⟩),
  (85, ⟨.func, 1, 8, .one (.nilf)⟩),
  (86, ⟨.func, 1, 8, .one (.nilf)⟩),
  (87, ⟨.func, 1, 8, .one (.nilf)⟩),
  (88, ⟨.func, 1, 8, .one (.nilf)⟩),
  (89, ⟨.int .u64, 1, 8, .one (.int .u64 0)⟩),
  (91, ⟨.func, 1, 8, .one (.nilf)⟩),
  (92, ⟨.func, 1, 8, .one (.nilf)⟩),
  (93, ⟨.func, 1, 8, .one (.nilf)⟩),
  (94, ⟨.func, 1, 8, .one (.nilf)⟩),
  (95, ⟨.func, 1, 8, .one (.nilf)⟩),
  (96, ⟨.func, 1, 8, .one (.nilf)⟩),
  (97, ⟨.int .u64, 1, 8, .one (.int .u64 0)⟩),
  (98, ⟨.func, 1, 8, .one (.nilf)⟩),
  (100, ⟨.func, 1, 8, .one (.nilf)⟩),
  (101, ⟨.func, 1, 8, .one (.nilf)⟩),
  (102, ⟨.func, 1, 8, .one (.nilf)⟩),
  (103, ⟨.struct [(0, 17), (1, 17), (2, 17), (3, 9)], 4, 40, .agg [.nilp, .nilp, .nilp, .str []]⟩),
  (104, ⟨.struct [(0, 17), (1, 17), (2, 17), (3, 9)], 4, 40, .agg [.nilp, .nilp, .nilp, .str []]⟩),
  (108, ⟨.func, 1, 8, .one (.nilf)⟩),
  (109, ⟨.int .u32, 1, 4, .one (.int .u32 0)⟩),
  (110, ⟨.int .u8, 1, 1, .one (.int .u8 0)⟩),
  (111, ⟨.int .u8, 1, 1, .one (.int .u8 0)⟩),
  (112, ⟨.func, 1, 8, .one (.nilf)⟩),
  (113, ⟨.ptr 5, 1, 8, .one (.nilp)⟩),
  (114, ⟨.int .i32, 1, 4, .one (.int .i32 0)⟩),
  (115, ⟨.int .i32, 1, 4, .one (.int .i32 0)⟩),
  (116, ⟨.struct [(0, 12), (1, 12), (2, 109), (3, 110), (4, 5), (5, 5), (6, 111), (7, 112), (8, 113), (9, 114), (10, 115)], 11, 48, .agg [.int .u64 0, .int .u64 0, .int .u32 0, .int .u8 0, .int .u8 0, .int .u8 0, .int .u8 0, .nilf, .nilp, .int .i32 0, .int .i32 0]⟩),
  (117, ⟨.struct [(0, 12), (1, 12), (2, 109), (3, 110), (4, 5), (5, 5), (6, 111), (7, 112), (8, 113), (9, 114), (10, 115)], 11, 48, .agg [.int .u64 0, .int .u64 0, .int .u32 0, .int .u8 0, .int .u8 0, .int .u8 0, .int .u8 0, .nilf, .nilp, .int .i32 0, .int .i32 0]⟩)]
def TY : Lf.TT := Lf.lk TYL
theorem TYok : Lf.TOK Try.prog TY := Lf.TOK.of_list (
  Lf.AllOK.cons (Lf.TI.ok_mk (z := .nilFunc) (Lf.TK.ok_func (by kernel_rfl)) (by kernel_rfl) (fun _ => Lf.Rel.nilf)) (
  Lf.AllOK.cons (Lf.TI.ok_mk (z := .int .i64 0) ((by kernel_rfl : Try.prog.underlying 2 = _)) (by kernel_rfl) (fun _ => Lf.Rel.int _ _)) (
  Lf.AllOK.cons (Lf.TI.ok_mk (z := .int .i64 0) ((by kernel_rfl : Try.prog.underlying 3 = _)) (by kernel_rfl) (fun _ => Lf.Rel.int _ _)) (
  Lf.AllOK.cons (Lf.TI.ok_mk (z := .bool false) ((by kernel_rfl : Try.prog.underlying 4 = _)) (by kernel_rfl) (fun _ => Lf.Rel.bool _)) (
  Lf.AllOK.cons (Lf.TI.ok_mk (z := .int .u8 0) ((by kernel_rfl : Try.prog.underlying 5 = _)) (by kernel_rfl) (fun _ => Lf.Rel.int _ _)) (
  Lf.AllOK.cons (Lf.TI.ok_mk (z := .int .u8 0) ((by kernel_rfl : Try.prog.underlying 6 = _)) (by kernel_rfl) (fun _ => Lf.Rel.int _ _)) (
  Lf.AllOK.cons (Lf.TI.ok_mk (z := .agg #[.int .i64 0, .int .i64 0, .bool false, .int .u8 0]) (Lf.TK.ok_struct (by kernel_rfl)) (by kernel_rfl) (fun _ => ⟨_, rfl, ⟨.int _ _, .int _ _, .bool _, .int _ _, trivial⟩⟩)) (
  Lf.AllOK.cons (Lf.TI.ok_mk (z := .agg #[.int .i64 0, .int .i64 0, .bool false, .int .u8 0]) (Lf.TK.ok_struct (by kernel_rfl)) (by kernel_rfl) (fun _ => ⟨_, rfl, ⟨.int _ _, .int _ _, .bool _, .int _ _, trivial⟩⟩)) (
  Lf.AllOK.cons (Lf.TI.ok_mk (z := .string ⟨#[]⟩) ((by kernel_rfl : Try.prog.underlying 9 = _)) (by kernel_rfl) (fun _ => Lf.Rel.str ⟨#[]⟩)) (
  Lf.AllOK.cons (Lf.TI.ok_mk (z := .string ⟨#[]⟩) ((by kernel_rfl : Try.prog.underlying 10 = _)) (by kernel_rfl) (fun _ => Lf.Rel.str ⟨#[]⟩)) (
  Lf.AllOK.cons (Lf.TI.ok_mk (z := .string ⟨#[]⟩) ((by kernel_rfl : Try.prog.underlying 11 = _)) (by kernel_rfl) (fun _ => Lf.Rel.str ⟨#[]⟩)) (
  Lf.AllOK.cons (Lf.TI.ok_mk (z := .int .u64 0) ((by kernel_rfl : Try.prog.underlying 12 = _)) (by kernel_rfl) (fun _ => Lf.Rel.int _ _)) (
  Lf.AllOK.cons (Lf.TI.ok_mk (z := .agg #[.string ⟨#[]⟩, .int .u64 0]) (Lf.TK.ok_struct (by kernel_rfl)) (by kernel_rfl) (fun _ => ⟨_, rfl, ⟨.str ⟨#[]⟩, .int _ _, trivial⟩⟩)) (
  Lf.AllOK.cons (Lf.TI.ok_mk (z := .agg #[.string ⟨#[]⟩, .int .u64 0]) (Lf.TK.ok_struct (by kernel_rfl)) (by kernel_rfl) (fun _ => ⟨_, rfl, ⟨.str ⟨#[]⟩, .int _ _, trivial⟩⟩)) (
  Lf.AllOK.cons (Lf.TI.ok_mk (z := .pointer none) ((by kernel_rfl : Try.prog.underlying 15 = _)) (by kernel_rfl) (fun _ => Lf.Rel.nilp)) (
  Lf.AllOK.cons (Lf.TI.ok_mk (z := .pointer none) ((by kernel_rfl : Try.prog.underlying 16 = _)) (by kernel_rfl) (fun _ => Lf.Rel.nilp)) (
  Lf.AllOK.cons (Lf.TI.ok_mk (z := .pointer none) ((by kernel_rfl : Try.prog.underlying 17 = _)) (by kernel_rfl) (fun _ => Lf.Rel.nilp)) (
  Lf.AllOK.cons (Lf.TI.ok_mk (z := .agg #[.pointer none]) (Lf.TK.ok_struct (by kernel_rfl)) (by kernel_rfl) (fun _ => ⟨_, rfl, ⟨.nilp, trivial⟩⟩)) (
  Lf.AllOK.cons (Lf.TI.ok_mk (z := .agg #[.pointer none]) (Lf.TK.ok_struct (by kernel_rfl)) (by kernel_rfl) (fun _ => ⟨_, rfl, ⟨.nilp, trivial⟩⟩)) (
  Lf.AllOK.cons (Lf.TI.ok_mk (z := .nilIface) (Lf.TK.ok_iface (by kernel_rfl)) (by kernel_rfl) (fun _ => Lf.Rel.nili)) (
  Lf.AllOK.cons (Lf.TI.ok_mk (z := .int .i32 0) ((by kernel_rfl : Try.prog.underlying 21 = _)) (by kernel_rfl) (fun _ => Lf.Rel.int _ _)) (
  Lf.AllOK.cons (Lf.TI.ok_mk (z := .slice none 0 0) ((by kernel_rfl : Try.prog.underlying 22 = _)) (by kernel_rfl) (fun _ => Lf.Rel.slnil)) (
  Lf.AllOK.cons (Lf.TI.ok_mk (z := .slice none 0 0) ((by kernel_rfl : Try.prog.underlying 23 = _)) (by kernel_rfl) (fun _ => Lf.Rel.slnil)) (
  Lf.AllOK.cons (Lf.TI.ok_mk (z := .slice none 0 0) ((by kernel_rfl : Try.prog.underlying 24 = _)) (by kernel_rfl) (fun _ => Lf.Rel.slnil)) (
  Lf.AllOK.cons (Lf.TI.ok_mk (z := .nilFunc) (Lf.TK.ok_func (by kernel_rfl)) (by kernel_rfl) (fun _ => Lf.Rel.nilf)) (
  Lf.AllOK.cons (Lf.TI.ok_mk (z := .nilFunc) (Lf.TK.ok_func (by kernel_rfl)) (by kernel_rfl) (fun _ => Lf.Rel.nilf)) (
  Lf.AllOK.cons (Lf.TI.ok_mk (z := .slice none 0 0) ((by kernel_rfl : Try.prog.underlying 27 = _)) (by kernel_rfl) (fun _ => Lf.Rel.slnil)) (
  Lf.AllOK.cons (Lf.TI.ok_mk (z := .agg #[.int .i64 0, .slice none 0 0]) (Lf.TK.ok_struct (by kernel_rfl)) (by kernel_rfl) (fun _ => ⟨_, rfl, ⟨.int _ _, .slnil, trivial⟩⟩)) (
  Lf.AllOK.cons (Lf.TI.ok_mk (z := .agg #[.int .i64 0, .slice none 0 0]) (Lf.TK.ok_struct (by kernel_rfl)) (by kernel_rfl) (fun _ => ⟨_, rfl, ⟨.int _ _, .slnil, trivial⟩⟩)) (
  Lf.AllOK.cons (Lf.TI.ok_mk (z := .agg #[.int .i64 0, .slice none 0 0, .int .i64 0, .slice none 0 0]) (Lf.TK.ok_struct (by kernel_rfl)) (by kernel_rfl) (fun _ => ⟨_, rfl, ⟨.int _ _, .slnil, .int _ _, .slnil, trivial⟩⟩)) (
  Lf.AllOK.cons (Lf.TI.ok_mk (z := .agg #[.int .i64 0, .slice none 0 0, .int .i64 0, .slice none 0 0]) (Lf.TK.ok_struct (by kernel_rfl)) (by kernel_rfl) (fun _ => ⟨_, rfl, ⟨.int _ _, .slnil, .int _ _, .slnil, trivial⟩⟩)) (
  Lf.AllOK.cons (Lf.TI.ok_mk (z := .int .i64 0) ((by kernel_rfl : Try.prog.underlying 32 = _)) (by kernel_rfl) (fun _ => Lf.Rel.int _ _)) (
  Lf.AllOK.cons (Lf.TI.ok_mk (z := .nilFunc) (Lf.TK.ok_func (by kernel_rfl)) (by kernel_rfl) (fun _ => Lf.Rel.nilf)) (
  Lf.AllOK.cons (Lf.TI.ok_mk (z := .nilFunc) (Lf.TK.ok_func (by kernel_rfl)) (by kernel_rfl) (fun _ => Lf.Rel.nilf)) (
  Lf.AllOK.cons (Lf.TI.ok_mk (z := .nilFunc) (Lf.TK.ok_func (by kernel_rfl)) (by kernel_rfl) (fun _ => Lf.Rel.nilf)) (
  Lf.AllOK.cons (Lf.TI.ok_mk (z := .nilFunc) (Lf.TK.ok_func (by kernel_rfl)) (by kernel_rfl) (fun _ => Lf.Rel.nilf)) (
  Lf.AllOK.cons (Lf.TI.ok_mk (z := .nilFunc) (Lf.TK.ok_func (by kernel_rfl)) (by kernel_rfl) (fun _ => Lf.Rel.nilf)) (
  Lf.AllOK.cons (Lf.TI.ok_mk (z := .nilFunc) (Lf.TK.ok_func (by kernel_rfl)) (by kernel_rfl) (fun _ => Lf.Rel.nilf)) (
  Lf.AllOK.cons (Lf.TI.ok_mk (z := .nilFunc) (Lf.TK.ok_func (by kernel_rfl)) (by kernel_rfl) (fun _ => Lf.Rel.nilf)) (
  Lf.AllOK.cons (Lf.TI.ok_mk (z := .nilFunc) (Lf.TK.ok_func (by kernel_rfl)) (by kernel_rfl) (fun _ => Lf.Rel.nilf)) (
  Lf.AllOK.cons (Lf.TI.ok_mk (z := .agg #[.int .i64 0, .int .i64 0]) (Lf.TK.ok_struct (by kernel_rfl)) (by kernel_rfl) (fun _ => ⟨_, rfl, ⟨.int _ _, .int _ _, trivial⟩⟩)) (
  Lf.AllOK.cons (Lf.TI.ok_mk (z := .agg #[.int .i64 0, .int .i64 0]) (Lf.TK.ok_struct (by kernel_rfl)) (by kernel_rfl) (fun _ => ⟨_, rfl, ⟨.int _ _, .int _ _, trivial⟩⟩)) (
  Lf.AllOK.cons (Lf.TI.ok_mk (z := .nilFunc) (Lf.TK.ok_func (by kernel_rfl)) (by kernel_rfl) (fun _ => Lf.Rel.nilf)) (
  Lf.AllOK.cons (Lf.TI.ok_mk (z := .nilFunc) (Lf.TK.ok_func (by kernel_rfl)) (by kernel_rfl) (fun _ => Lf.Rel.nilf)) (
  Lf.AllOK.cons (Lf.TI.ok_mk (z := .nilFunc) (Lf.TK.ok_func (by kernel_rfl)) (by kernel_rfl) (fun _ => Lf.Rel.nilf)) (
  Lf.AllOK.cons (Lf.TI.ok_mk (z := .int .u16 0) ((by kernel_rfl : Try.prog.underlying 48 = _)) (by kernel_rfl) (fun _ => Lf.Rel.int _ _)) (
  Lf.AllOK.cons (Lf.TI.ok_mk (z := .nilFunc) (Lf.TK.ok_func (by kernel_rfl)) (by kernel_rfl) (fun _ => Lf.Rel.nilf)) (
  Lf.AllOK.cons (Lf.TI.ok_mk (z := .nilFunc) (Lf.TK.ok_func (by kernel_rfl)) (by kernel_rfl) (fun _ => Lf.Rel.nilf)) (
  Lf.AllOK.cons (Lf.TI.ok_mk (z := .nilFunc) (Lf.TK.ok_func (by kernel_rfl)) (by kernel_rfl) (fun _ => Lf.Rel.nilf)) (
  Lf.AllOK.cons (Lf.TI.ok_mk (z := .nilFunc) (Lf.TK.ok_func (by kernel_rfl)) (by kernel_rfl) (fun _ => Lf.Rel.nilf)) (
  Lf.AllOK.cons (Lf.TI.ok_mk (z := .nilFunc) (Lf.TK.ok_func (by kernel_rfl)) (by kernel_rfl) (fun _ => Lf.Rel.nilf)) (
  Lf.AllOK.cons (Lf.TI.ok_mk (z := .nilFunc) (Lf.TK.ok_func (by kernel_rfl)) (by kernel_rfl) (fun _ => Lf.Rel.nilf)) (
  Lf.AllOK.cons (Lf.TI.ok_mk (z := .nilFunc) (Lf.TK.ok_func (by kernel_rfl)) (by kernel_rfl) (fun _ => Lf.Rel.nilf)) (
  Lf.AllOK.cons (Lf.TI.ok_mk (z := .nilFunc) (Lf.TK.ok_func (by kernel_rfl)) (by kernel_rfl) (fun _ => Lf.Rel.nilf)) (
  Lf.AllOK.cons (Lf.TI.ok_mk (z := .nilFunc) (Lf.TK.ok_func (by kernel_rfl)) (by kernel_rfl) (fun _ => Lf.Rel.nilf)) (
  Lf.AllOK.cons (Lf.TI.ok_mk (z := .nilFunc) (Lf.TK.ok_func (by kernel_rfl)) (by kernel_rfl) (fun _ => Lf.Rel.nilf)) (
  Lf.AllOK.cons (Lf.TI.ok_mk (z := .nilFunc) (Lf.TK.ok_func (by kernel_rfl)) (by kernel_rfl) (fun _ => Lf.Rel.nilf)) (
  Lf.AllOK.cons (Lf.TI.ok_mk (z := .nilFunc) (Lf.TK.ok_func (by kernel_rfl)) (by kernel_rfl) (fun _ => Lf.Rel.nilf)) (
  Lf.AllOK.cons (Lf.TI.ok_mk (z := .nilFunc) (Lf.TK.ok_func (by kernel_rfl)) (by kernel_rfl) (fun _ => Lf.Rel.nilf)) (
  Lf.AllOK.cons (Lf.TI.ok_mk (z := .nilFunc) (Lf.TK.ok_func (by kernel_rfl)) (by kernel_rfl) (fun _ => Lf.Rel.nilf)) (
  Lf.AllOK.cons (Lf.TI.ok_mk (z := .nilFunc) (Lf.TK.ok_func (by kernel_rfl)) (by kernel_rfl) (fun _ => Lf.Rel.nilf)) (
  Lf.AllOK.cons (Lf.TI.ok_mk (z := .map none) ((by kernel_rfl : Try.prog.underlying 66 = _)) (by kernel_rfl) (fun _ => Lf.Rel.nilm)) (
  Lf.AllOK.cons (Lf.TI.ok_mk (z := .nilFunc) (Lf.TK.ok_func (by kernel_rfl)) (by kernel_rfl) (fun _ => Lf.Rel.nilf)) (
  Lf.AllOK.cons (Lf.TI.ok_mk (z := .nilFunc) (Lf.TK.ok_func (by kernel_rfl)) (by kernel_rfl) (fun _ => Lf.Rel.nilf)) (
  Lf.AllOK.cons (Lf.TI.ok_mk (z := .nilFunc) (Lf.TK.ok_func (by kernel_rfl)) (by kernel_rfl) (fun _ => Lf.Rel.nilf)) (
  Lf.AllOK.cons (Lf.TI.ok_mk (z := .nilFunc) (Lf.TK.ok_func (by kernel_rfl)) (by kernel_rfl) (fun _ => Lf.Rel.nilf)) (
  Lf.AllOK.cons (Lf.TI.ok_mk (z := .nilFunc) (Lf.TK.ok_func (by kernel_rfl)) (by kernel_rfl) (fun _ => Lf.Rel.nilf)) (
  Lf.AllOK.cons (Lf.TI.ok_mk (z := .nilFunc) (Lf.TK.ok_func (by kernel_rfl)) (by kernel_rfl) (fun _ => Lf.Rel.nilf)) (
  Lf.AllOK.cons (Lf.TI.ok_mk (z := .nilFunc) (Lf.TK.ok_func (by kernel_rfl)) (by kernel_rfl) (fun _ => Lf.Rel.nilf)) (
  Lf.AllOK.cons (Lf.TI.ok_mk (z := .nilFunc) (Lf.TK.ok_func (by kernel_rfl)) (by kernel_rfl) (fun _ => Lf.Rel.nilf)) (
  Lf.AllOK.cons (Lf.TI.ok_mk (z := .nilFunc) (Lf.TK.ok_func (by kernel_rfl)) (by kernel_rfl) (fun _ => Lf.Rel.nilf)) (
  Lf.AllOK.cons (Lf.TI.ok_mk (z := .nilFunc) (Lf.TK.ok_func (by kernel_rfl)) (by kernel_rfl) (fun _ => Lf.Rel.nilf)) (
  Lf.AllOK.cons (Lf.TI.ok_mk (z := .nilFunc) (Lf.TK.ok_func (by kernel_rfl)) (by kernel_rfl) (fun _ => Lf.Rel.nilf)) (
  Lf.AllOK.cons (Lf.TI.ok_mk (z := .nilFunc) (Lf.TK.ok_func (by kernel_rfl)) (by kernel_rfl) (fun _ => Lf.Rel.nilf)) (
  Lf.AllOK.cons (Lf.TI.ok_mk (z := .nilFunc) (Lf.TK.ok_func (by kernel_rfl)) (by kernel_rfl) (fun _ => Lf.Rel.nilf)) (
  Lf.AllOK.cons (Lf.TI.ok_mk (z := .slice none 0 0) ((by kernel_rfl : Try.prog.underlying 82 = _)) (by kernel_rfl) (fun _ => Lf.Rel.slnil)) (
  Lf.AllOK.cons (Lf.TI.ok_mk (z := .nilFunc) (Lf.TK.ok_func (by kernel_rfl)) (by kernel_rfl) (fun _ => Lf.Rel.nilf)) (
  Lf.AllOK.cons (Lf.TI.ok_mk (z := .nilFunc) (Lf.TK.ok_func (by kernel_rfl)) (by kernel_rfl) (fun _ => Lf.Rel.nilf)) (
  Lf.AllOK.cons (Lf.TI.ok_mk (z := .nilFunc) (Lf.TK.ok_func (by kernel_rfl)) (by kernel_rfl) (fun _ => Lf.Rel.nilf)) (
  Lf.AllOK.cons (Lf.TI.ok_mk (z := .nilFunc) (Lf.TK.ok_func (by kernel_rfl)) (by kernel_rfl) (fun _ => Lf.Rel.nilf)) (
  Lf.AllOK.cons (Lf.TI.ok_mk (z := .nilFunc) (Lf.TK.ok_func (by kernel_rfl)) (by kernel_rfl) (fun _ => Lf.Rel.nilf)) (
  Lf.AllOK.cons (Lf.TI.ok_mk (z := .nilFunc) (Lf.TK.ok_func (by kernel_rfl)) (by kernel_rfl) (fun _ => Lf.Rel.nilf)) (
  Lf.AllOK.cons (Lf.TI.ok_mk (z := .int .u64 0) ((by kernel_rfl : Try.prog.underlying 89 = _)) (by kernel_rfl) (fun _ => Lf.Rel.int _ _)) (
  Lf.AllOK.cons (Lf.TI.ok_mk (z := .nilFunc) (Lf.TK.ok_func (by kernel_rfl)) (by kernel_rfl) (fun _ => Lf.Rel.nilf)) (
  Lf.AllOK.cons (Lf.TI.ok_mk (z := .nilFunc) (Lf.TK.ok_func (by kernel_rfl)) (by kernel_rfl) (fun _ => Lf.Rel.nilf)) (
  Lf.AllOK.cons (Lf.TI.ok_mk (z := .nilFunc) (Lf.TK.ok_func (by kernel_rfl)) (by kernel_rfl) (fun _ => Lf.Rel.nilf)) (
  Lf.AllOK.cons (Lf.TI.ok_mk (z := .nilFunc) (Lf.TK.ok_func (by kernel_rfl)) (by kernel_rfl) (fun _ => Lf.Rel.nilf)) (
  Lf.AllOK.cons (Lf.TI.ok_mk (z := .nilFunc) (Lf.TK.ok_func (by kernel_rfl)) (by kernel_rfl) (fun _ => Lf.Rel.nilf)) (
  Lf.AllOK.cons (Lf.TI.ok_mk (z := .nilFunc) (Lf.TK.ok_func (by kernel_rfl)) (by kernel_rfl) (fun _ => Lf.Rel.nilf)) (
  Lf.AllOK.cons (Lf.TI.ok_mk (z := .int .u64 0) ((by kernel_rfl : Try.prog.underlying 97 = _)) (by kernel_rfl) (fun _ => Lf.Rel.int _ _)) (
  Lf.AllOK.cons (Lf.TI.ok_mk (z := .nilFunc) (Lf.TK.ok_func (by kernel_rfl)) (by kernel_rfl) (fun _ => Lf.Rel.nilf)) (
  Lf.AllOK.cons (Lf.TI.ok_mk (z := .nilFunc) (Lf.TK.ok_func (by kernel_rfl)) (by kernel_rfl) (fun _ => Lf.Rel.nilf)) (
  Lf.AllOK.cons (Lf.TI.ok_mk (z := .nilFunc) (Lf.TK.ok_func (by kernel_rfl)) (by kernel_rfl) (fun _ => Lf.Rel.nilf)) (
  Lf.AllOK.cons (Lf.TI.ok_mk (z := .nilFunc) (Lf.TK.ok_func (by kernel_rfl)) (by kernel_rfl) (fun _ => Lf.Rel.nilf)) (
  Lf.AllOK.cons (Lf.TI.ok_mk (z := .agg #[.pointer none, .pointer none, .pointer none, .string ⟨#[]⟩]) (Lf.TK.ok_struct (by kernel_rfl)) (by kernel_rfl) (fun _ => ⟨_, rfl, ⟨.nilp, .nilp, .nilp, .str ⟨#[]⟩, trivial⟩⟩)) (
  Lf.AllOK.cons (Lf.TI.ok_mk (z := .agg #[.pointer none, .pointer none, .pointer none, .string ⟨#[]⟩]) (Lf.TK.ok_struct (by kernel_rfl)) (by kernel_rfl) (fun _ => ⟨_, rfl, ⟨.nilp, .nilp, .nilp, .str ⟨#[]⟩, trivial⟩⟩)) (
  Lf.AllOK.cons (Lf.TI.ok_mk (z := .nilFunc) (Lf.TK.ok_func (by kernel_rfl)) (by kernel_rfl) (fun _ => Lf.Rel.nilf)) (
  Lf.AllOK.cons (Lf.TI.ok_mk (z := .int .u32 0) ((by kernel_rfl : Try.prog.underlying 109 = _)) (by kernel_rfl) (fun _ => Lf.Rel.int _ _)) (
  Lf.AllOK.cons (Lf.TI.ok_mk (z := .int .u8 0) ((by kernel_rfl : Try.prog.underlying 110 = _)) (by kernel_rfl) (fun _ => Lf.Rel.int _ _)) (
  Lf.AllOK.cons (Lf.TI.ok_mk (z := .int .u8 0) ((by kernel_rfl : Try.prog.underlying 111 = _)) (by kernel_rfl) (fun _ => Lf.Rel.int _ _)) (
  Lf.AllOK.cons (Lf.TI.ok_mk (z := .nilFunc) (Lf.TK.ok_func (by kernel_rfl)) (by kernel_rfl) (fun _ => Lf.Rel.nilf)) (
  Lf.AllOK.cons (Lf.TI.ok_mk (z := .pointer none) ((by kernel_rfl : Try.prog.underlying 113 = _)) (by kernel_rfl) (fun _ => Lf.Rel.nilp)) (
  Lf.AllOK.cons (Lf.TI.ok_mk (z := .int .i32 0) ((by kernel_rfl : Try.prog.underlying 114 = _)) (by kernel_rfl) (fun _ => Lf.Rel.int _ _)) (
  Lf.AllOK.cons (Lf.TI.ok_mk (z := .int .i32 0) ((by kernel_rfl : Try.prog.underlying 115 = _)) (by kernel_rfl) (fun _ => Lf.Rel.int _ _)) (
  Lf.AllOK.cons (Lf.TI.ok_mk (z := .agg #[.int .u64 0, .int .u64 0, .int .u32 0, .int .u8 0, .int .u8 0, .int .u8 0, .int .u8 0, .nilFunc, .pointer none, .int .i32 0, .int .i32 0]) (Lf.TK.ok_struct (by kernel_rfl)) (by kernel_rfl) (fun _ => ⟨_, rfl, ⟨.int _ _, .int _ _, .int _ _, .int _ _, .int _ _, .int _ _, .int _ _, .nilf, .nilp, .int _ _, .int _ _, trivial⟩⟩)) (
  Lf.AllOK.cons (Lf.TI.ok_mk (z := .agg #[.int .u64 0, .int .u64 0, .int .u32 0, .int .u8 0, .int .u8 0, .int .u8 0, .int .u8 0, .nilFunc, .pointer none, .int .i32 0, .int .i32 0]) (Lf.TK.ok_struct (by kernel_rfl)) (by kernel_rfl) (fun _ => ⟨_, rfl, ⟨.int _ _, .int _ _, .int _ _, .int _ _, .int _ _, .int _ _, .int _ _, .nilf, .nilp, .int _ _, .int _ _, trivial⟩⟩)) (
  Lf.AllOK.nil)))))))))))))))))))))))))))))))))))))))))))))))))))))))))))))))))))))))))))))))))))))))))))))))))))))))))))
theorem mixed : Try.prog.follows .mixedOrders = true := by kernel_rfl
end Go.Proofs.Ytgpcmgjdkefdjaa
end
section
set_option linter.unusedVariables false
set_option linter.unusedSimpArgs false
set_option linter.unusedSectionVars false
namespace Lf
open Go Go.RowKit
section
variable {P : Program} {G : Ghost} {n0 : Nat} {env : List (Nat × (Prop × AV))} {bl : List (Nat × Blk)} {p : Prop} {dst : Option Nat} {ty : TypeId} {pos : String} {after : Array Edge} {gd : Option (Nat × Bool)}
theorem run_bound {w : World} {k : IntKind} {n : Int} {m : Nat} {c : BoundsCode} (h : 0 ≤ n ∧ n ≤ m) : (Instr.sliceBound (.int k n) m c).run P w = .ok n.toNat w := by
  simp [Instr.sliceBound, asIntOf, h.1, h.2]
variable {T : TT} (hT : TOK P T)
include hT
end
end Lf
end
section
set_option linter.unusedVariables false
set_option linter.unusedSimpArgs false
set_option linter.unusedSectionVars false
namespace Lf
open Go Go.RowKit
inductive RV where
  | tmp (t : Nat)
  | cell (t ty : Nat)
def RV.var : RV → ResultVar
  | .tmp t => .tmp t
  | .cell t ty => .cell t ty
section
variable {P : Program} {G : Ghost} {A : St} {Φ : Frz} {β : Own} {a : Act} {w w' : World} {T : TT}
def ResM (T : TT) (A : St) : List RV → List PV → Prop
  | [], [] => True
  | .tmp t :: rs, q :: qs => (∃ av r, lk A.env t = some (True, av) ∧ toPV A.blks av = some r ∧ PSub r q) ∧ ResM T A rs qs
  | .cell t ty :: rs, q :: qs => (∃ ti m cs, T ty = some ti ∧ ti.kind.isAgg = some true ∧ lk A.env t = some (True, .addr m 0 0) ∧ lk A.blks m = some ⟨ty, ti.sz, [cs]⟩ ∧ PSub (.agg cs) q) ∧ ResM T A rs qs
  | _, _ => False
theorem ResM.nil : ResM T A [] [] := trivial
theorem ResM.tmp {t : Nat} {rs : List RV} {q r : PV} {qs : List PV} {av : AV} (h : lk A.env t = some (True, av)) (hv : toPV A.blks av = some r) (hs : PSub r q) (ht : ResM T A rs qs) : ResM T A (.tmp t :: rs) (q :: qs) := ⟨⟨av, r, h, hv, hs⟩, ht⟩
theorem ResM.cell {t ty m : Nat} {ti : TI} {rs : List RV} {q : PV} {cs : List Cell} {qs : List PV} (h1 : T ty = some ti) (h2 : ti.kind.isAgg = some true) (h : lk A.env t = some (True, .addr m 0 0)) (hv : lk A.blks m = some ⟨ty, ti.sz, [cs]⟩) (hs : PSub (.agg cs) q) (ht : ResM T A rs qs) : ResM T A (.cell t ty :: rs) (q :: qs) := ⟨⟨ti, m, cs, h1, h2, h, hv, hs⟩, ht⟩
def FinM (T : TT) (rs : List RV) (qs : List PV) (e : Exit) (A : St) : Prop := (e = .normal ∨ e = .ret) ∧ ResM T A rs qs
theorem FinM.ret {rs : List RV} {qs : List PV} (h : ResM T A rs qs) : FinM T rs qs .ret A := ⟨.inr rfl, h⟩
theorem run_cell (hT : TOK P T) (hs : Sat G Φ β A a w) {t ty m : Nat} {ti : TI} {cs : List Cell} (hty : T ty = some ti) (hag : ti.kind.isAgg = some true) (h1 : lk A.env t = some (True, .addr m 0 0)) (h2 : lk A.blks m = some ⟨ty, ti.sz, [cs]⟩) :
    ∃ v, (asAddr (a.tmps.getD t undef) >>= loadVar ty).run P w = .ok v w ∧ PRel Φ v (.agg cs) := by
  obtain ⟨b, cap, B, k1, k2, hob, k3⟩ := (hs.env t True _ h1).1 trivial
  rw [h2] at k2
  obtain rfl := Option.some.inj k2
  obtain ⟨cur, g1, g2, g3, g4, g5, g6⟩ := (hs.blk m _ b cap h2 k1).1.cells hob
  have hlen : cs.length = ti.sz := g5 cs (by simp)
  have hcell : ∀ j, j < ti.sz → w.cell? ⟨b, 0 + j, none⟩ = some ((cur[j]?).getD undef) := fun j hj => by
    obtain ⟨v, q1, q2⟩ := g6 0 j cs (cs[j]'(by omega)) rfl (List.getElem?_eq_getElem _)
    simp only [Nat.zero_mul, Nat.zero_add] at q1 ⊢
    rw [cell_of_row w b _ cur _ (0, 0) g1, q1]; rfl
  have hload := run_loadCells (P := P) w ⟨b, 0, none⟩ ti.sz (fun j => (cur[j]?).getD undef) (fun j hj => by rw [Addr.add_lit]; exact hcell j hj)
  refine ⟨.agg ((List.range ti.sz).map fun j => (cur[j]?).getD undef).toArray, ?_, _, rfl, ?_⟩
  · have e1 : a.tmps.getD t undef = .pointer (some ⟨b, 0, none⟩) := by rw [k3]; simp
    rw [e1]
    simp [asAddr, loadVar, run_isAgg hT hty hag, run_sizeOf hT hty, hload]
  · rw [← hlen]
    refine relL_range fun j c hj => ?_
    obtain ⟨v, q1, q2⟩ := g6 0 j cs c rfl hj
    simp only [Nat.zero_mul, Nat.zero_add] at q1
    rw [q1]; exact q2
theorem resm_run (hT : TOK P T) {f : ResultVar → Sem Value} (hs : Sat G Φ β A a w) (hf1 : ∀ t, f (.tmp t) = pure (a.tmps.getD t undef)) (hf2 : ∀ t ty, f (.cell t ty) = (asAddr (a.tmps.getD t undef) >>= loadVar ty)) :
    ∀ {rs : List RV} {qs : List PV}, ResM T A rs qs → ∃ vs : List Value, ((rs.map RV.var).mapM f).run P w = .ok vs w ∧ vs.length = qs.length ∧ ∀ (j : Nat) (q : PV), qs[j]? = some q → ∃ v, vs[j]? = some v ∧ PRel (frzAll Φ β A.blks w) v q
  | [], [], _ => ⟨[], rfl, rfl, fun j q h => by simp at h⟩
  | .tmp t :: rs, q0 :: qs, ⟨⟨av, r, h1, h2, h3⟩, h⟩ => by
    obtain ⟨vs, e1, e2, e3⟩ := resm_run hT hs hf1 hf2 h
    refine ⟨a.tmps.getD t undef :: vs, ?_, by simp [e2], fun j q hq => ?_⟩
    · simp only [List.map_cons, List.mapM_cons, RV.var, hf1, pure_bind, Sem.run_bind, e1]
      rfl
    · cases j with
      | zero => simp at hq; subst hq; exact ⟨_, rfl, (hs.toPV ((hs.env t True av h1).1 trivial) h2).sub h3⟩
      | succ j => simpa using e3 j q (by simpa using hq)
  | .cell t ty :: rs, q0 :: qs, ⟨⟨ti, m, cs, h1, h2, h3, h4, h5⟩, h⟩ => by
    obtain ⟨vs, e1, e2, e3⟩ := resm_run hT hs hf1 hf2 h
    obtain ⟨v, k1, k2⟩ := run_cell hT hs h1 h2 h3 h4
    refine ⟨v :: vs, ?_, by simp [e2], fun j q hq => ?_⟩
    · rw [List.map_cons, List.mapM_cons, RV.var, hf2, Sem.run_bind, k1]
      simp only [Result.andThen, Sem.run_bind, e1]
      rfl
    · cases j with
      | zero => simp at hq; subst hq; exact ⟨_, rfl, (k2.mono hs.frz_le).sub h5⟩
      | succ j => simpa using e3 j q (by simpa using hq)
/-- The call, out of the walk of its body. -/
theorem calls_mix (hT : TOK P T) {f : FuncId} {fn : Func} {c : Code} {args qs : List PV} (rs : List RV) (hf : P.funcs[f]? = some fn) (hb : fn.body = some c)
    (hr : fn.results = (rs.map RV.var).toArray) {Φ : Frz} {w : World} {vs : Array Value} (hfit : Fits Φ w) (harg : ArgsRel Φ vs args)
    (h : W P { w0 := w, K := fun b => b < w.heap.size, F0 := Φ, lt := fun b h => h } c (FinM T rs qs) (St.init fn.ntmps args)) :
    Calls P f vs w (fun e w' => ∃ v Φ', e = .returned v ∧ AVRel Φ' (fun _ => none) [] v (ofRes qs) ∧ Φ.le Φ' ∧ (∀ b, b < w.heap.size → Φ' b = Φ b) ∧ Fits Φ' w' ∧ Below w.heap.size w w') := by
  refine calls_of_wp hf hb (wp_mono (h Φ (fun _ => none) _ w (sat_init (f := f) rfl hfit harg)) fun e a' w' ⟨A', Φ', β', ⟨he, hres⟩, hs, hle⟩ => ?_)
  have hv : a'.defers = [] ∧ ∃ v, (results fn a'.tmps).run P w' = .ok v w' ∧ (∃ v1 Φ'', Ending.returned v = .returned v1 ∧ AVRel Φ'' (fun _ => none) [] v1 (ofRes qs) ∧ Φ.le Φ'' ∧ (∀ b, b < w.heap.size → Φ'' b = Φ b) ∧ Fits Φ'' w' ∧ Below w.heap.size w w') := by
    obtain ⟨vl, e1, e2, e3⟩ := resm_run hT hs (f := fun
      | .tmp t => pure (a'.tmps.getD t undef)
      | .cell t ty => do loadVar ty (← asAddr (a'.tmps.getD t undef))) (fun t => rfl) (fun t ty => rfl) hres
    have hrest : Φ.le (frzAll Φ' β' A'.blks w') ∧ (∀ b, b < w.heap.size → frzAll Φ' β' A'.blks w' b = Φ b) ∧ Fits (frzAll Φ' β' A'.blks w') w' ∧ Below w.heap.size w w' := by
      refine ⟨Frz.le_trans hle hs.frz_le, fun b hb => ?_, hs.frz_fits, ⟨hs.kept.os, hs.kept.tape, hs.kept.output, hs.kept.size, hs.kept.block⟩⟩
      have hno : ¬ ownedBy β' A'.blks b := fun ⟨n, B, cap, h1, h2⟩ => (hs.blk n B b cap h1 h2).2.1 hb
      unfold frzAll
      rw [if_neg hno]
      exact hs.old b hb
    refine ⟨hs.dfr, ?_⟩
    match vl, qs, e1, e2, e3 with
    | [], [], e1, _, e3 =>
      refine ⟨.tuple #[], ?_, _, _, rfl, ⟨#[], rfl, rfl, fun j p h => by simp at h⟩, hrest⟩
      unfold results; rw [hr, List.mapM_toArray, bind_map_left, Sem.run_bind]; erw [e1]; rfl
    | [v], [q], e1, _, e3 =>
      obtain ⟨v', h1, h2⟩ := e3 0 q rfl
      simp at h1; subst h1
      refine ⟨v, ?_, _, _, rfl, h2, hrest⟩
      unfold results; rw [hr, List.mapM_toArray, bind_map_left, Sem.run_bind]; erw [e1]; rfl
    | v :: v2 :: vs', q :: q2 :: qs', e1, e2, e3 =>
      refine ⟨.tuple (v :: v2 :: vs').toArray, ?_, _, _, rfl, ⟨_, rfl, by simpa using e2, fun j p hp => ?_⟩, hrest⟩
      · unfold results; rw [hr, List.mapM_toArray, bind_map_left, Sem.run_bind]; erw [e1]; rfl
      · obtain ⟨v', h1, h2⟩ := e3 j p hp
        exact ⟨v', by simpa using h1, h2⟩
  rcases he with rfl | rfl
  · exact hv
  · exact hv
theorem ACalls.of_M (hT : TOK P T) {f : FuncId} {fn : Func} {c : Code} {args qs : List PV} (rs : List RV) (n : Nat) (hf : P.funcs[f]? = some fn) (hn : (fn.name == "runtime.NumGoroutine") = false) (hb : fn.body = some c)
    (hr : fn.results = (rs.map RV.var).toArray) (hnt : fn.ntmps = n) (h : ∀ G, W P G c (FinM T rs qs) (St.init n args)) : ACalls P f args (ofRes qs) where
  fn := ⟨fn, hf, hn, by rw [hb]; rfl⟩
  calls := fun Φ w vs hfit harg => by subst hnt; exact calls_mix hT rs hf hb hr hfit harg (h _)
end
end Lf
end
section
set_option linter.unusedVariables false
set_option linter.unusedSimpArgs false
set_option linter.unusedSectionVars false
namespace Lf
open Go Go.RowKit
/-- the world behind a call that may turn block b -/
structure BelowX (b n : Nat) (w w' : World) : Prop where
  os : w'.os = w.os
  tape : w'.tape = w.tape
  output : w'.output = w.output
  size : w.heap.size ≤ w'.heap.size
  block : ∀ c, c < n → c ≠ b → w'.heap[c]? = w.heap[c]?
section
variable {P : Program} {G : Ghost} {A : St} {Φ : Frz} {β : Own} {a : Act} {w w' : World}
/-- all own blocks but m become memory that does not turn any more -/
def dropB (m : Nat) (bl : List (Nat × Blk)) : List (Nat × Blk) := bl.filter fun x => !Nat.beq x.1 m
theorem lk_dropB (m : Nat) : ∀ (bl : List (Nat × Blk)) (k : Nat), lk (dropB m bl) k = if k = m then none else lk bl k
  | [], k => by simp [dropB, lk]
  | (t, B) :: r, k => by
    have ih := lk_dropB m r k
    simp only [dropB, List.filter_cons] at ih ⊢
    cases hb : Nat.beq t m with
    | true =>
      have e : t = m := Nat.eq_of_beq_eq_true hb
      simp only [Bool.not_true, Bool.false_eq_true, if_false]
      rw [ih, lk_cons]
      by_cases h : k = m
      · simp [h]
      · rw [if_neg h, if_neg h, if_neg (by omega)]
    | false =>
      have e : t ≠ m := fun e => by subst e; simp at hb
      simp only [Bool.not_false, if_true]
      rw [lk_cons, lk_cons, ih]
      by_cases h : t = k
      · rw [if_pos h, if_pos h, if_neg (by omega)]
      · rw [if_neg h, if_neg h]
def frzVX (m : Nat) (bl : List (Nat × Blk)) : AV → AV
  | .itr d n => .top
  | .mp n => .top
  | v => bif v.ment m then v else frzV bl v
def frzX (m : Nat) (bl : List (Nat × Blk)) : List (Nat × (Prop × AV)) → List (Nat × (Prop × AV))
  | [] => []
  | (t, (q, v)) :: r => (t, (q, frzVX m bl v)) :: frzX m bl r
theorem lk_frzX (m : Nat) (bl : List (Nat × Blk)) : ∀ (env : List (Nat × (Prop × AV))) (t : Nat) (q : Prop) (v : AV), lk (frzX m bl env) t = some (q, v) → ∃ v', lk env t = some (q, v') ∧ v = frzVX m bl v'
  | [], t, q, v, h => by simp [frzX, lk] at h
  | (s, (q0, v0)) :: r, t, q, v, h => by
    rw [frzX, lk_cons] at h
    rw [lk_cons]
    split at h
    · rename_i e
      simp only [Option.some.injEq, Prod.mk.injEq] at h
      rw [if_pos e]
      exact ⟨v0, by rw [h.1], h.2.symm⟩
    · rename_i e
      rw [if_neg e]
      exact lk_frzX m bl r t q v h
theorem toPV_drop {m : Nat} {bl : List (Nat × Blk)} {v : AV} (h : v.ment m = false) : toPV (dropB m bl) v = toPV bl v := by
  cases v with
  | slc n =>
    have e : n ≠ m := fun e => by subst e; simp [AV.ment] at h
    simp only [toPV, lk_dropB, if_neg e]
  | addr n i off =>
    have e : n ≠ m := fun e => by subst e; simp [AV.ment] at h
    simp only [toPV, lk_dropB, if_neg e]
  | _ => rfl
theorem AVRel.drop {m : Nat} {v : Value} {x : AV} (h : AVRel Φ β A.blks v x) (hm : x.ment m = false) : AVRel Φ β (dropB m A.blks) v x := by
  have hl : ∀ k, k ≠ m → lk (dropB m A.blks) k = lk A.blks k := fun k hk => by rw [lk_dropB, if_neg hk]
  cases x with
  | pv p => exact h
  | tup l => exact h
  | top => trivial
  | addr n i off =>
    have e : n ≠ m := fun e => by subst e; simp [AV.ment] at hm
    obtain ⟨b', cap', B', g1, g2, g3⟩ := h
    exact ⟨b', cap', B', g1, by rw [hl n e]; exact g2, g3⟩
  | slc n =>
    have e : n ≠ m := fun e => by subst e; simp [AV.ment] at hm
    obtain ⟨B', g2, g3⟩ := h
    exact ⟨B', by rw [hl n e]; exact g2, g3⟩
  | pin n b c f =>
    have e : n ≠ m := fun e => by subst e; simp [AV.ment] at hm
    obtain ⟨B', g1, g2, g3⟩ := h
    exact ⟨B', g1, by rw [hl n e]; exact g2, g3⟩
  | mp n =>
    have e : n ≠ m := fun e => by subst e; simp [AV.ment] at hm
    obtain ⟨b', cap', B', g1, g2, g3⟩ := h
    exact ⟨b', cap', B', g1, by rw [hl n e]; exact g2, g3⟩
  | itr d n =>
    have e : n ≠ m := fun e => by subst e; simp [AV.ment] at hm
    have e' : d ≠ m := fun e => by subst e; simp [AV.ment] at hm
    obtain ⟨b', cap', B', M, c, g1, g2, g3, g4, g5, g6⟩ := h
    exact ⟨b', cap', B', M, c, g1, by rw [hl d e']; exact g2, g3, g4, by rw [hl n e]; exact g5, g6⟩
theorem freezeX_sat {m : Nat} {B : Blk} (hm : lk A.blks m = some B) (hs : Sat G Φ β A a w) : ∃ Φ' β', Φ.le Φ' ∧ Sat G Φ' β' { A with env := frzX m A.blks A.env, blks := [(m, B)] } a w ∧ β' m = β m ∧
    ∀ (v : Value) (n : Nat) (C : Blk) (q : PV), lk A.blks n = some C → n ≠ m → AVRel Φ β A.blks v (.slc n) → toPV A.blks (.slc n) = some q → PRel Φ' v q := by
  have hs1 : Sat G Φ β ⟨A.n, [], dropB m A.blks⟩ a w := by
    refine ⟨hs.kept, hs.fits, hs.old, hs.siz, hs.dfr, fun t q v h => by simp [lk] at h, fun n C b cap h1 h2 => ?_, fun n C h1 h2 => ?_, fun n n' C C' b c c' h1 h2 h3 h4 => ?_⟩
    · simp only [lk_dropB] at h1; split at h1
      · cases h1
      · exact hs.blk n C b cap h1 h2
    · simp only [lk_dropB] at h1; split at h1
      · cases h1
      · exact hs.vir n C h1 h2
    · simp only [lk_dropB] at h1 h2; split at h1
      · cases h1
      · split at h2
        · cases h2
        · exact hs.inj n n' C C' b c c' h1 h2 h3 h4
  have hno : ∀ b cap, β m = some (b, cap) → ¬ ownedBy β (dropB m A.blks) b := fun b cap h1 ⟨n, C, c', k1, k2⟩ => by
    rw [lk_dropB] at k1; split at k1
    · cases k1
    · rename_i e; exact e (hs.inj n m C B b c' cap k1 hm k2 h1)
  have hs1' : Sat G Φ β ⟨A.n, [], dropB m A.blks⟩ a w := hs1
  refine ⟨frzAll Φ β (dropB m A.blks) w, fun k => if k = m then β m else none, hs1.frz_le, ⟨hs.kept, hs1.frz_fits, fun b hk => ?_, hs.siz, hs.dfr, fun t q v h => ?_, fun n C b cap h1 h2 => ?_, fun n C h1 h2 => ?_, fun n n' C C' b c c' h1 h2 h3 h4 => ?_⟩, by simp, fun v n C q k1 k2 k3 k4 => ?_⟩
  · have hn : ¬ ownedBy β (dropB m A.blks) b := fun ⟨n, C, cap, h1, h2⟩ => (hs1.blk n C b cap h1 h2).2.1 hk
    unfold frzAll
    rw [if_neg hn]
    exact hs.old b hk
  · obtain ⟨v', h1, rfl⟩ := lk_frzX _ _ _ _ _ _ h
    refine ⟨fun hq => ?_, (hs.env t q v' h1).2⟩
    have h3 := (hs.env t q v' h1).1 hq
    have frz : v'.ment m = false → AVRel (frzAll Φ β (dropB m A.blks) w) (fun k => if k = m then β m else none) [(m, B)] (a.tmps.getD t undef) (frzV A.blks v') := fun hmt => by
      have h5 := h3.drop hmt
      have e : frzV A.blks v' = frzV (dropB m A.blks) v' := by
        cases v' <;> simp only [frzV, toPV_drop hmt]
      rw [e]
      cases v' with
      | tup l => exact h3.mono hs1.frz_le
      | pv p => exact PRel.mono hs1.frz_le h3
      | top => trivial
      | mp n => trivial
      | itr d n => trivial
      | pin n b c f => trivial
      | addr n i off =>
        simp only [frzV]
        cases hq' : toPV (dropB m A.blks) (.addr n i off) with
        | none => trivial
        | some p => exact hs1.toPV h5 hq'
      | slc n =>
        simp only [frzV]
        cases hq' : toPV (dropB m A.blks) (.slc n) with
        | none => trivial
        | some p => exact hs1.toPV h5 hq'
    cases v' with
    | mp n => trivial
    | itr d n => trivial
    | tup l => exact frz rfl
    | pv p => exact frz rfl
    | top => exact frz rfl
    | addr n i off =>
      simp only [frzVX]
      cases hmt : (AV.addr n i off).ment m with
      | false => exact frz hmt
      | true =>
        have e : n = m := Nat.eq_of_beq_eq_true hmt
        subst e
        obtain ⟨b', cap', B', g1, g2, g3⟩ := h3
        rw [hm] at g2; obtain rfl := Option.some.inj g2
        exact ⟨b', cap', B, by simp [g1], by rw [lk_cons, if_pos rfl], g3⟩
    | slc n =>
      simp only [frzVX]
      cases hmt : (AV.slc n).ment m with
      | false => exact frz hmt
      | true =>
        have e : n = m := Nat.eq_of_beq_eq_true hmt
        subst e
        obtain ⟨B', g2, g3⟩ := h3
        rw [hm] at g2; obtain rfl := Option.some.inj g2
        exact ⟨B, by rw [lk_cons, if_pos rfl], by simpa using g3⟩
    | pin n b c f =>
      simp only [frzVX]
      cases hmt : (AV.pin n b c f).ment m with
      | false => exact frz hmt
      | true =>
        have e : n = m := Nat.eq_of_beq_eq_true hmt
        subst e
        obtain ⟨B', g1, g2, g3⟩ := h3
        rw [hm] at g2; obtain rfl := Option.some.inj g2
        exact ⟨B, by simp [g1], by rw [lk_cons, if_pos rfl], g3⟩
  · rw [lk_cons] at h1
    split at h1
    · rename_i e; subst e
      obtain rfl := Option.some.inj h1
      simp only [if_true] at h2
      obtain ⟨k1, k2, k3⟩ := hs.blk m B b cap hm h2
      refine ⟨k1.keep hs1.frz_le rfl, k2, ?_⟩
      unfold frzAll
      rw [if_neg (hno b cap h2)]
      exact k3
    · simp [lk] at h1
  · rw [lk_cons] at h1
    split at h1
    · rename_i e; subst e
      obtain rfl := Option.some.inj h1
      simp only [if_true] at h2
      exact hs.vir m B hm h2
    · simp [lk] at h1
  · rw [lk_cons] at h1 h2
    split at h1
    · rename_i e; split at h2
      · rename_i e'; rw [← e, ← e']
      · simp [lk] at h2
    · simp [lk] at h1
  · have hmt : (AV.slc n).ment m = false := by
      cases hb : (AV.slc n).ment m with
      | false => rfl
      | true => exact absurd (Nat.eq_of_beq_eq_true hb) k2
    exact hs1'.toPV (k3.drop hmt) (by rw [toPV_drop hmt]; exact k4)
theorem Le.freezeX {m : Nat} {B : Blk} (hm : lk A.blks m = some B) : Le A { A with env := frzX m A.blks A.env, blks := [(m, B)] } := fun G Φ β a w hs => by
  obtain ⟨Φ', β', h1, h2, _⟩ := freezeX_sat hm hs
  exact ⟨Φ', β', h1, h2⟩
/-- The results, as1 data. -/
def ResD (A : St) : List Nat → List PV → Prop
  | [], [] => True
  | t :: ts, q :: qs => (∃ r, lk A.env t = some (True, .pv r) ∧ PSub r q) ∧ ResD A ts qs
  | _, _ => False
theorem ResD.nil : ResD A [] [] := trivial
theorem ResD.cons {t : Nat} {ts : List Nat} {q r : PV} {qs : List PV} (h : lk A.env t = some (True, .pv r)) (hs : PSub r q) (ht : ResD A ts qs) : ResD A (t :: ts) (q :: qs) := ⟨⟨r, h, hs⟩, ht⟩
theorem resd_get (hs : Sat G Φ β A a w) : ∀ {ts : List Nat} {qs : List PV}, ResD A ts qs → ∀ (j : Nat) (q : PV), qs[j]? = some q → ∃ t, ts[j]? = some t ∧ PRel Φ (a.tmps.getD t undef) q
  | [], [], _, j, q, h => by simp at h
  | t :: ts, q0 :: qs, ⟨⟨r, h1, h3⟩, _⟩, 0, q, h => by
    simp at h; subst h
    exact ⟨t, rfl, PRel.sub ((hs.env t True _ h1).1 trivial) h3⟩
  | x :: xs, q0 :: qs, h, j + 1, q, hq => by simpa using resd_get hs h.2 j q (by simpa using hq)
theorem resd_len : ∀ {ts : List Nat} {qs : List PV}, ResD A ts qs → ts.length = qs.length
  | [], [], _ => rfl
  | _ :: _, _ :: _, h => by simp [resd_len h.2]
theorem ob_lt {E sz : Nat} {rows : List (List Cell)} (h : Nat.ble mapTag E = false) : (⟨E, sz, rows⟩ : Blk).ob = false := h
/-- an own block is lent, and turned -/
theorem AVRel.turn {n : Nat} {B : Blk} {rows : List (List Cell)} (h1 : lk A.blks n = some B) (hob : B.ob = false) (hlen : rows.length = B.rows.length) {v : Value} {x : AV} (h : AVRel Φ β A.blks v x) : AVRel Φ β ((n, { B with rows := rows }) :: A.blks) v x := by
  have hl : ∀ m, m ≠ n → lk ((n, { B with rows := rows }) :: A.blks) m = lk A.blks m := fun m hm => by rw [lk_cons, if_neg (Ne.symm hm)]
  cases x with
  | pv p => exact h
  | tup l => exact h
  | top => trivial
  | addr m i off =>
    obtain ⟨b', cap', B', k1, k2, k3⟩ := h
    by_cases e : m = n
    · subst e
      obtain rfl : B = B' := by rw [h1] at k2; exact Option.some.inj k2
      exact ⟨b', cap', { B with rows := rows }, k1, by rw [lk_cons, if_pos rfl], k3⟩
    · exact ⟨b', cap', B', k1, by rw [hl m e]; exact k2, k3⟩
  | pin m b0 c0 f =>
    obtain ⟨B', k1, k2, k3⟩ := h
    by_cases e : m = n
    · subst e
      obtain rfl : B = B' := by rw [h1] at k2; exact Option.some.inj k2
      exact ⟨{ B with rows := rows }, k1, by rw [lk_cons, if_pos rfl], k3.1, by simp only [hlen]; exact k3.2⟩
    · exact ⟨B', k1, by rw [hl m e]; exact k2, k3⟩
  | slc m =>
    obtain ⟨B', k1, k2⟩ := h
    by_cases e : m = n
    · subst e
      obtain rfl : B = B' := by rw [h1] at k1; exact Option.some.inj k1
      refine ⟨{ B with rows := rows }, by rw [lk_cons, if_pos rfl], k2.1, ?_⟩
      simp only [hlen]; exact k2.2
    · exact ⟨B', by rw [hl m e]; exact k1, k2⟩
  | mp m =>
    obtain ⟨b', cap', B', k1, k2, k3, k4⟩ := h
    have e : m ≠ n := fun e => by
      subst e; rw [h1] at k2; obtain rfl := Option.some.inj k2; rw [ob_map k3] at hob; cases hob
    exact ⟨b', cap', B', k1, by rw [hl m e]; exact k2, k3, k4⟩
  | itr d m =>
    obtain ⟨b', cap', B', M, c, k1, k2, k3, k4, k5, k6, k7⟩ := h
    have e : m ≠ n := fun e => by
      subst e; rw [h1] at k5; obtain rfl := Option.some.inj k5; rw [ob_map k6] at hob; cases hob
    have e' : d ≠ n := fun e => by
      subst e; rw [h1] at k2; obtain rfl := Option.some.inj k2; rw [ob_iter k3] at hob; cases hob
    exact ⟨b', cap', B', M, c, k1, by rw [hl d e']; exact k2, k3, k4, by rw [hl m e]; exact k5, k6, k7⟩
theorem Sat.lend {Φ' : Frz} (hs : Sat G Φ β A a w) {n b cap : Nat} {B : Blk} {rows : List (List Cell)} (h1 : lk A.blks n = some B) (h2 : β n = some (b, cap)) (hob : B.ob = false) (hlen : rows.length = B.rows.length)
    (hle : Φ.le Φ') (heq : ∀ c, c < w.heap.size → Φ' c = Φ c) (hf : Fits Φ' w') (hb : BlkRel Φ' w' b cap { B with rows := rows }) (hx : BelowX b w.heap.size w w') : Sat G Φ' β { A with blks := (n, { B with rows := rows }) :: A.blks } a w' := by
  obtain ⟨g1, g2, g3⟩ := hs.blk n B b cap h1 h2
  have hne : ∀ c, G.K c → c ≠ b := fun c hk e => g2 (e ▸ hk)
  refine ⟨⟨hx.os.trans hs.kept.os, hx.tape.trans hs.kept.tape, hx.output.trans hs.kept.output, Nat.le_trans hs.kept.size hx.size, fun c hk => (hx.block c (Nat.lt_of_lt_of_le (G.lt c hk) hs.kept.size) (hne c hk)).trans (hs.kept.block c hk)⟩, hf,
    fun c hk => (heq c (Nat.lt_of_lt_of_le (G.lt c hk) hs.kept.size)).trans (hs.old c hk), hs.siz, hs.dfr, fun t q v h => ⟨fun hq => (((hs.env t q v h).1 hq).mono hle).turn h1 hob hlen, (hs.env t q v h).2⟩, fun m C b' cap' k1 k2 => ?_, fun m C k1 k2 => ?_, fun m m' C C' b' c c' k1 k2 k3 k4 => ?_⟩
  · rw [lk_cons] at k1
    split at k1
    · rename_i e; subst e
      obtain rfl := Option.some.inj k1
      rw [h2] at k2
      simp only [Option.some.injEq, Prod.mk.injEq] at k2
      obtain ⟨rfl, rfl⟩ := k2
      exact ⟨hb, g2, by rw [heq b g1.lt]; exact g3⟩
    · rename_i e
      obtain ⟨q1, q2, q3⟩ := hs.blk m C b' cap' k1 k2
      have hbb : b' ≠ b := fun e' => by subst e'; exact e (hs.inj n m B C b' cap cap' h1 k1 h2 k2)
      exact ⟨q1.keep hle (hx.block b' q1.lt hbb), q2, by rw [heq b' q1.lt]; exact q3⟩
  · rw [lk_cons] at k1
    split at k1
    · rename_i e; subst e; rw [h2] at k2; cases k2
    · exact hs.vir m C k1 k2
  · have hk : ∀ m C, lk ((n, { B with rows := rows }) :: A.blks) m = some C → ∃ C0, lk A.blks m = some C0 := fun m C h => by
      rw [lk_cons] at h
      split at h
      · rename_i e; subst e; exact ⟨B, h1⟩
      · exact ⟨C, h⟩
    obtain ⟨C0, e0⟩ := hk m C k1
    obtain ⟨C1, e1⟩ := hk m' C' k2
    exact hs.inj m m' C0 C1 b' c c' e0 e1 k3 k4
end
section
variable {P : Program} {G : Ghost} {ops : Array Oper} {rest : List Oper} {Q : St → Prop} {n0 : Nat} {env : List (Nat × (Prop × AV))} {bl : List (Nat × Blk)} {p : Prop} {dst : Option Nat} {ty : TypeId} {pos : String} {after : Array Edge} {gd : Option (Nat × Bool)}
end
end Lf
end
section
set_option linter.unusedVariables false
set_option linter.unusedSimpArgs false
set_option linter.unusedSectionVars false
namespace Lf
open Go Go.RowKit
def slcV (b c : Nat) : Nat → Value := fun len => .slice (some ⟨b, 0, none⟩) len c
section
variable {P : Program} {G : Ghost} {A B : St} {Φ : Frz} {β : Own} {a : Act} {w w' : World}
/-- the place of an own slice -/
theorem Sat.place {t n : Nat} {C : Blk} (hs : Sat G Φ β A a w) (ht : lk A.env t = some (True, .slc n)) (hl : lk A.blks n = some C) :
    (∃ b c, Sat G Φ β (A.set t True (.pin n b c (slcV b c))) a w) ∨ (C.rows = [] ∧ Sat G Φ β (A.set t True (.pv (.one .slnil))) a w) := by
  obtain ⟨C', h1, h2, h3⟩ := (hs.env t True _ ht).1 trivial
  rw [hl] at h1
  obtain rfl := Option.some.inj h1
  have mk : ∀ v, AVRel Φ β A.blks (a.tmps.getD t undef) v → Sat G Φ β (A.set t True v) a w := fun v hv => by
    refine ⟨hs.kept, hs.fits, hs.old, hs.siz, hs.dfr, fun s q v' h => ?_, hs.blk, hs.vir, hs.inj⟩
    simp only [St.set] at h
    rw [lk_cons] at h
    split at h
    · rename_i e; subst e
      simp only [Option.some.injEq, Prod.mk.injEq] at h
      obtain ⟨rfl, rfl⟩ := h
      exact ⟨fun _ => hv, fun hq => (hq trivial).elim⟩
    · exact hs.env s q v' h
  rcases h3 with ⟨h3, h4⟩ | ⟨b, c, h3, h4⟩
  · exact .inr ⟨hs.vir n C hl h3, mk _ (by rw [h4]; exact Rel.slnil)⟩
  · exact .inl ⟨b, c, mk _ ⟨C, h3, hl, h2, h4⟩⟩
theorem rel_sla {b len c : Nat} {v : Value} (h : Rel Φ v (.sla b len c)) : v = .slice (some ⟨b, 0, none⟩) len c := by cases h; rfl
end
section
variable {P : Program} {G : Ghost} {ops : Array Oper} {rest : List Oper} {Q : St → Prop} {n0 : Nat} {env : List (Nat × (Prop × AV))} {bl : List (Nat × Blk)} {p : Prop} {dst : Option Nat} {ty : TypeId} {pos : String} {after : Array Edge} {gd : Option (Nat × Bool)}
theorem RG.place {t n : Nat} {C : Blk} (ht : lk env t = some (True, .slc n)) (hl : lk bl n = some C) (h1 : ∀ b c, RG P G ops rest Q (St.mk n0 ((t, (True, .pin n b c (slcV b c))) :: env) bl)) (h2 : C.rows = [] → RG P G ops rest Q (St.mk n0 ((t, (True, .pv (.one .slnil))) :: env) bl)) :
    RG P G ops rest Q (St.mk n0 env bl) := fun Φ β a w hs Q' hq => by
  rcases hs.place ht hl with ⟨b, c, hs'⟩ | ⟨h, hs'⟩
  · exact h1 b c Φ β a w hs' Q' hq
  · exact h2 h Φ β a w hs' Q' hq
variable {T : TT} (hT : TOK P T)
include hT
omit hT in
/-- a slice of data, cut -/
theorem rel_cut {Φ : Frz} {v : Value} {rows : List (List Cell)} {sz lo hi : Nat} (h : Rel Φ v (.sl rows)) (hrows : ∀ r ∈ rows, r.length = sz) (h1 : lo ≤ hi) (h2 : hi ≤ rows.length) :
    ∃ a len cap, v = .slice a len cap ∧ len = rows.length ∧ len ≤ cap ∧ Rel Φ (.slice (if cap = lo then a else a.map (·.add (lo * sz))) (hi - lo) (cap - lo)) (.sl ((rows.drop lo).take (hi - lo))) := by
  cases h with
  | sl0 =>
    simp at h2
    refine ⟨none, 0, 0, rfl, rfl, Nat.le_refl _, ?_⟩
    have e1 : lo = 0 := by omega
    have e2 : hi = 0 := by omega
    subst e1; subst e2
    exact .sl0
  | slE a cap =>
    simp at h2
    refine ⟨some a, 0, cap, rfl, rfl, Nat.zero_le _, ?_⟩
    have e1 : lo = 0 := by omega
    have e2 : hi = 0 := by omega
    subst e1; subst e2
    simp only [List.drop_zero, Nat.sub_zero, List.take_zero]
    split
    · exact .slE a cap
    · exact .slE _ cap
  | sl b off len cap sz' _ f hlen hcap hsz hc hr =>
    refine ⟨some ⟨b, off, none⟩, len, cap, rfl, hlen.symm, hcap, ?_⟩
    by_cases e : lo = hi
    · subst e
      simp only [Nat.sub_self, List.take_zero]
      split
      · rename_i e2; exact .slE _ _
      · exact .slE _ _
    · have hne : cap ≠ lo := by rw [← hlen] at hcap; omega
      have hlt : hi - lo ≤ cap - lo := by rw [← hlen] at hcap; omega
      rw [if_neg hne]
      have hz : sz' = sz := by
        cases rows with
        | nil => simp at h2; omega
        | cons r rs => rw [← hsz r (by simp), hrows r (by simp)]
      subst hz
      have hget : ∀ (i : Nat) (r : List Cell), ((rows.drop lo).take (hi - lo))[i]? = some r → rows[lo + i]? = some r := fun i r h => by
        simp only [List.getElem?_take, List.getElem?_drop] at h
        split at h
        · exact h
        · cases h
      simp only [Option.map_some, Addr.add_lit]
      refine .sl b (off + lo * sz') (hi - lo) (cap - lo) sz' ((rows.drop lo).take (hi - lo)) (fun i j => f (lo + i) j) (by rw [List.length_take, List.length_drop]; omega) hlt (fun r hr' => hsz r (List.mem_of_mem_drop (List.mem_of_mem_take hr'))) (fun i j r c h3 h4 => ?_) (fun i j r c h3 h4 => ?_)
      · have := hc (lo + i) j r c (hget i r h3) h4
        have e : off + lo * sz' + (i * sz' + j) = off + ((lo + i) * sz' + j) := by rw [Nat.add_mul]; omega
        rw [e]; exact this
      · exact hr (lo + i) j r c (hget i r h3) h4
theorem Q_cut0 {t e : Nat} {x hi : Operand} {ti te : TI} {rows : List (List Cell)} {k : IntKind} {b : Int} (hx : Ev (St.mk n0 env bl) p x (.pv (.one (.sl rows)))) (hb : Ev (St.mk n0 env bl) p hi (.pv (.one (.int k b))))
    (ht : T t = some ti) (hk : ti.kind = .slice e) (he : T e = some te) (hrows : ∀ r ∈ rows, r.length = te.sz) (hr : p → 0 ≤ b ∧ b ≤ rows.length) : PureOp P G (St.mk n0 env bl) ⟨dst, .slice t x none (some hi) none, ty, pos, after, gd⟩ p (.pv (.one (.sl (rows.take b.toNat)))) := PureOp.val fun Φ β ac w hs hp => by
  have hu : P.underlying t = some (.slice e) := by have := (hT _ _ ht).kind; rw [hk] at this; exact this
  have h2 := AVRel.int (hs.ev hb hp)
  obtain ⟨r1, r2⟩ := hr hp
  obtain ⟨av, len, cap, h1, hlen, hcap, hrel⟩ := rel_cut (lo := 0) (hi := b.toNat) (show Rel Φ (ac.eval x) _ from hs.ev hx hp) hrows (by omega) (by omega)
  simp only [List.drop_zero, Nat.sub_zero] at hrel
  refine ⟨_, exec_val (m := Instr.sliceAt t (ac.eval x) none (some (ac.eval hi)) none) (by simp only [execOp]; rfl) ?_, hrel⟩
  rw [h1, h2]
  have e2 : (Instr.sliceBound (.int k b) cap .sliceAcap).run P w = .ok b.toNat w := run_bound ⟨r1, by omega⟩
  simp [Instr.sliceAt, run_underlying hu, Instr.slice, Instr.sliceBounds, e2, run_sizeOf hT he]
end
end Lf
end
