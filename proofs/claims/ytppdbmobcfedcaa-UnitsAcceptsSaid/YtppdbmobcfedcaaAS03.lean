/-
  Part 3 of what the proof rests on.
-/
import Derived.Test.YtppdbmobcfedcaaAS02
import Derived.Maps.RangeRun
import Derived.MapKept
import Derived.Test.YtppdbmobcfedcaaRows
import Derived.KernelRfl
section
set_option linter.unusedVariables false
set_option linter.unusedSimpArgs false
set_option linter.unusedSectionVars false
namespace Lf
open Go Go.RowKit
def AV.ren (ρ : Nat → Nat) : AV → AV
  | .addr n i o => .addr (ρ n) i o
  | .slc n => .slc (ρ n)
  | .mp n => .mp (ρ n)
  | .mpn n b => .mpn (ρ n) b
  | .itr d n => .itr (ρ d) (ρ n)
  | .pin n b c f => .pin (ρ n) b c f
  | .pv p => .pv p
  | .tup l => .tup l
  | .top => .top
def AV.nameIn (bl : List (Nat × Blk)) : AV → Prop
  | .addr n _ _ => (lk bl n).isSome = true
  | .slc n => (lk bl n).isSome = true
  | .mp n => (lk bl n).isSome = true
  | .mpn n _ => (lk bl n).isSome = true
  | .itr d n => (lk bl d).isSome = true ∧ (lk bl n).isSome = true
  | .pin n _ _ _ => (lk bl n).isSome = true
  | _ => True
theorem Le.ren {A B : St} (ρ : Nat → Nat) (hn : B.n = A.n) (he : ∀ t q v, lk B.env t = some (q, v) → lk A.env t = some (q, v.ren ρ) ∧ v.nameIn B.blks) (hb : ∀ n C, lk B.blks n = some C → lk A.blks (ρ n) = some C)
    (hi : ∀ n n' C C', lk B.blks n = some C → lk B.blks n' = some C' → ρ n = ρ n' → n = n') : Le A B := fun G Φ β a w hs => by
  refine ⟨Φ, fun n => β (ρ n), Φ.le_refl, hs.kept, hs.fits, hs.old, by rw [hn]; exact hs.siz, hs.dfr, fun t q v h => ?_, fun n C b cap h1 h2 => hs.blk _ C b cap (hb n C h1) h2, fun n C h1 h2 => hs.vir _ C (hb n C h1) h2,
    fun n n' C C' b c c' h1 h2 h3 h4 => hi n n' C C' h1 h2 (hs.inj _ _ C C' b c c' (hb n C h1) (hb n' C' h2) h3 h4)⟩
  obtain ⟨h1, h2⟩ := he t q v h
  refine ⟨fun hq => ?_, (hs.env t q _ h1).2⟩
  have h3 := (hs.env t q _ h1).1 hq
  cases v with
  | pv p => exact h3
  | tup l => exact h3
  | top => trivial
  | addr n i o =>
    obtain ⟨b, cap, C, g1, g2, g3⟩ := h3
    obtain ⟨D, hD⟩ := Option.isSome_iff_exists.1 h2
    have := hb n D hD
    rw [this] at g2
    obtain rfl := Option.some.inj g2
    exact ⟨b, cap, D, g1, hD, g3⟩
  | slc n =>
    obtain ⟨C, g2, g3⟩ := h3
    obtain ⟨D, hD⟩ := Option.isSome_iff_exists.1 h2
    have := hb n D hD
    rw [this] at g2
    obtain rfl := Option.some.inj g2
    exact ⟨D, hD, g3⟩
  | mp n =>
    obtain ⟨b, cap, C, g1, g2, g3⟩ := h3
    obtain ⟨D, hD⟩ := Option.isSome_iff_exists.1 h2
    have := hb n D hD
    rw [this] at g2
    obtain rfl := Option.some.inj g2
    exact ⟨b, cap, D, g1, hD, g3⟩
  | mpn n bb =>
    obtain ⟨b, cap, C, g1, g2, g3⟩ := h3
    obtain ⟨D, hD⟩ := Option.isSome_iff_exists.1 h2
    have := hb n D hD
    rw [this] at g2
    obtain rfl := Option.some.inj g2
    exact ⟨b, cap, D, g1, hD, g3⟩
  | itr d n =>
    obtain ⟨b, cap, C, M, c, g1, g2, g3, g4, g5, g6⟩ := h3
    obtain ⟨D, hD⟩ := Option.isSome_iff_exists.1 h2.1
    obtain ⟨E, hE⟩ := Option.isSome_iff_exists.1 h2.2
    have e1 := hb d D hD
    rw [e1] at g2
    obtain rfl := Option.some.inj g2
    have e2 := hb n E hE
    rw [e2] at g5
    obtain rfl := Option.some.inj g5
    exact ⟨b, cap, D, E, c, g1, hD, g3, g4, hE, g6⟩
  | pin n b0 c0 f =>
    obtain ⟨C, g1, g2, g3⟩ := h3
    obtain ⟨D, hD⟩ := Option.isSome_iff_exists.1 h2
    have := hb n D hD
    rw [this] at g2
    obtain rfl := Option.some.inj g2
    exact ⟨D, g1, hD, g3⟩
def renF (l : List (Nat × Nat)) (n : Nat) : Nat := (lk l n).getD n
def renOf (A : St) : List (Nat × (Prop × AV)) → List (Nat × Nat)
  | [] => []
  | (t, (_, v)) :: r => match v, lk A.env t with
    | .slc n, some (_, .slc m) => (n, m) :: renOf A r
    | .mp n, some (_, .mp m) => (n, m) :: renOf A r
    | .mpn n _, some (_, .mpn m _) => (n, m) :: renOf A r
    | .itr d n, some (_, .itr e m) => (d, e) :: (n, m) :: renOf A r
    | .addr n _ _, some (_, .addr m _ _) => (n, m) :: renOf A r
    | .pin n _ _ _, some (_, .pin m _ _ _) => (n, m) :: renOf A r
    | _, _ => renOf A r
def SubR (A : St) (ρ : List (Nat × Nat)) (bl' : List (Nat × Blk)) : List (Nat × (Prop × AV)) → Prop
  | [] => True
  | (t, (q, v)) :: r => (lk A.env t = some (q, v.ren (renF ρ)) ∧ v.nameIn bl') ∧ SubR A ρ bl' r
def SubBR (A : St) (ρ : List (Nat × Nat)) : List (Nat × Blk) → Prop
  | [] => True
  | (n, B) :: r => lk A.blks (renF ρ n) = some B ∧ SubBR A ρ r
theorem SubR.nil {A : St} {ρ : List (Nat × Nat)} {bl : List (Nat × Blk)} : SubR A ρ bl [] := trivial
theorem SubR.p {A : St} {ρ : List (Nat × Nat)} {bl : List (Nat × Blk)} {t : Nat} {q : Prop} {p p' : PV} {r : List (Nat × (Prop × AV))} (h : lk A.env t = some (q, .pv p')) (hv : AV.pv p' = AV.pv p) (hr : SubR A ρ bl r) : SubR A ρ bl ((t, (q, .pv p)) :: r) :=
  ⟨⟨by rw [h, hv]; rfl, trivial⟩, hr⟩
theorem SubR.s {A : St} {ρ : List (Nat × Nat)} {bl : List (Nat × Blk)} {t n m : Nat} {q : Prop} {r : List (Nat × (Prop × AV))} (h : lk A.env t = some (q, .slc m)) (hm : renF ρ n = m) (hn : (lk bl n).isSome = true) (hr : SubR A ρ bl r) : SubR A ρ bl ((t, (q, .slc n)) :: r) :=
  ⟨⟨by rw [h, ← hm]; rfl, hn⟩, hr⟩
theorem SubR.a {A : St} {ρ : List (Nat × Nat)} {bl : List (Nat × Blk)} {t n m i o : Nat} {q : Prop} {r : List (Nat × (Prop × AV))} (h : lk A.env t = some (q, .addr m i o)) (hm : renF ρ n = m) (hn : (lk bl n).isSome = true) (hr : SubR A ρ bl r) : SubR A ρ bl ((t, (q, .addr n i o)) :: r) :=
  ⟨⟨by rw [h, ← hm]; rfl, hn⟩, hr⟩
theorem SubR.k {A : St} {ρ : List (Nat × Nat)} {bl : List (Nat × Blk)} {t n m b c : Nat} {f : Nat → Value} {q : Prop} {r : List (Nat × (Prop × AV))} (h : lk A.env t = some (q, .pin m b c f)) (hm : renF ρ n = m) (hn : (lk bl n).isSome = true) (hr : SubR A ρ bl r) : SubR A ρ bl ((t, (q, .pin n b c f)) :: r) :=
  ⟨⟨by rw [h, ← hm]; rfl, hn⟩, hr⟩
theorem SubBR.nil {A : St} {ρ : List (Nat × Nat)} : SubBR A ρ [] := trivial
theorem SubBR.cons {A : St} {ρ : List (Nat × Nat)} {n : Nat} {B B' : Blk} {r : List (Nat × Blk)} (h : lk A.blks (renF ρ n) = some B') (hv : B' = B) (hr : SubBR A ρ r) : SubBR A ρ ((n, B) :: r) := ⟨hv ▸ h, hr⟩
theorem SubR.append {A : St} {ρ : List (Nat × Nat)} {bl : List (Nat × Blk)} : ∀ {l m : List (Nat × (Prop × AV))}, SubR A ρ bl l → SubR A ρ bl m → SubR A ρ bl (l ++ m)
  | [], _, _, h => h
  | _ :: _, _, ⟨h1, h2⟩, h => ⟨h1, SubR.append h2 h⟩
theorem SubR.get {A : St} {ρ : List (Nat × Nat)} {bl : List (Nat × Blk)} : ∀ {env : List (Nat × (Prop × AV))}, SubR A ρ bl env → ∀ {t q v}, lk env t = some (q, v) → lk A.env t = some (q, v.ren (renF ρ)) ∧ v.nameIn bl
  | [], _, t, q, v, h => by simp [lk] at h
  | (s, (q0, v0)) :: r, hs, t, q, v, h => by
    rw [lk_cons] at h
    split at h
    · rename_i e; subst e
      simp only [Option.some.injEq, Prod.mk.injEq] at h
      obtain ⟨rfl, rfl⟩ := h
      exact hs.1
    · exact SubR.get hs.2 h
theorem SubBR.get {A : St} {ρ : List (Nat × Nat)} : ∀ {bl : List (Nat × Blk)}, SubBR A ρ bl → ∀ {n C}, lk bl n = some C → lk A.blks (renF ρ n) = some C
  | [], _, n, C, h => by simp [lk] at h
  | (s, B) :: r, hs, n, C, h => by
    rw [lk_cons] at h
    split at h
    · rename_i e; subst e
      obtain rfl := Option.some.inj h
      exact hs.1
    · exact SubBR.get hs.2 h
def injOn (ρ : List (Nat × Nat)) (bl : List (Nat × Blk)) : Bool := bl.all fun a => bl.all fun b => !(Nat.beq (renF ρ a.1) (renF ρ b.1)) || Nat.beq a.1 b.1
theorem lk_mem {α : Type _} : ∀ {l : List (Nat × α)} {n : Nat} {x : α}, lk l n = some x → (n, x) ∈ l
  | [], n, x, h => by simp [lk] at h
  | (s, y) :: r, n, x, h => by
    rw [lk_cons] at h
    split at h
    · rename_i e; subst e
      obtain rfl := Option.some.inj h
      exact List.mem_cons_self ..
    · exact List.mem_cons_of_mem _ (lk_mem h)
theorem Le.mkR {A : St} {n : Nat} {f E : List (Nat × (Prop × AV))} {bl : List (Nat × Blk)} {ρ : List (Nat × Nat)} (hρ : renOf A f = ρ) (hn : n = A.n) (hf : SubR A ρ bl f) (hE : SubR A ρ bl E) (hb : SubBR A ρ bl) (hi : injOn ρ bl = true) : Le A (Lf.mkSt n f E bl) := by
  refine Le.ren (renF ρ) hn (fun t q v h => (hf.append hE).get h) (fun n C h => hb.get h) fun a b C C' h1 h2 h3 => ?_
  have := List.all_eq_true.1 (List.all_eq_true.1 hi _ (lk_mem h1)) _ (lk_mem h2)
  simp [h3] at this
  exact this
section
variable {P : Program} {T : Nat → Option TI} (hT : TOK P T)
include hT
variable {G : Ghost} {ops : Array Oper} {rest : List Oper} {Q : St → Prop} {n0 : Nat} {env : List (Nat × (Prop × AV))} {bl : List (Nat × Blk)} {p : Prop}
variable {dst : Option Nat} {ty : TypeId} {pos : String} {after : Array Edge} {gd : Option (Nat × Bool)}
/-- the length of an encoded list -/
theorem Q_lenm {α : Type} {t e : Nat} {x : Operand} {ti : TI} {l : List α} {f : α → List Cell} (hx : Ev (St.mk n0 env bl) p x (.pv (.one (.sl (l.map f))))) (ht : T t = some ti) (hk : ti.kind = .slice e) :
    PureOp P G (St.mk n0 env bl) ⟨dst, .call ⟨.builtin .len, #[x], #[t]⟩, ty, pos, after, gd⟩ p (.pv (.one (.int .i64 l.length))) := by
  have h := Q_lend (G := G) (dst := dst) (ty := ty) (pos := pos) (after := after) (gd := gd) hT hx ht hk
  rw [List.length_map] at h; exact h
end
/-- a guard whose value is known -/
theorem RG.gT {P : Program} {G : Ghost} {ops : Array Oper} {rest : List Oper} {Q : St → Prop} {A : St} {o : Option Nat} {op : Op} {ty : TypeId} {pos : String} {after : Array Edge} {j t : Nat} {want b : Bool}
    (hj : (ops[j]?).bind (·.dst) = some t) (ht : lk A.env t = some (True, .pv (.one (.bool b)))) (hb : b = want) (h : RG P G ops (⟨o, op, ty, pos, after, none⟩ :: rest) Q A) : RG P G ops (⟨o, op, ty, pos, after, some (j, want)⟩ :: rest) Q A := fun Φ β a w hs Q' hq => by
  have h1 := h Φ β a w hs Q' hq
  have hw := (GOk.ifT (o := ⟨o, op, ty, pos, after, some (j, want)⟩) rfl hj ht G Φ β a w hs).2 hb
  unfold wpList at h1 ⊢
  rw [if_pos hw]
  rw [if_pos (by simp [Region.wanted])] at h1
  exact h1
theorem RG.gF {P : Program} {G : Ghost} {ops : Array Oper} {rest : List Oper} {Q : St → Prop} {A : St} {d : Nat} {op : Op} {ty : TypeId} {pos : String} {after : Array Edge} {j t : Nat} {want b : Bool}
    (hj : (ops[j]?).bind (·.dst) = some t) (ht : lk A.env t = some (True, .pv (.one (.bool b)))) (hb : b ≠ want) (hn : Nat.blt d A.n = true) (h : RG P G ops rest Q (A.set d False .top)) : RG P G ops (⟨some d, op, ty, pos, after, some (j, want)⟩ :: rest) Q A :=
  RG.pure (GOk.ifT rfl hj ht) (fun Φ β a w hs hp => (hb hp).elim) rfl (blt_lt hn) (fun Φ β a w hs Q' hq => h Φ β a w ⟨hs.kept, hs.fits, hs.old, hs.siz, hs.dfr, fun s q v hl => by
    have hl' := hl
    simp only [St.set] at hl
    rw [lk_cons] at hl
    split at hl
    · rename_i e; subst e
      simp only [Option.some.injEq, Prod.mk.injEq] at hl
      obtain ⟨rfl, rfl⟩ := hl
      refine ⟨fun hx => hx.elim, fun _ => ?_⟩
      exact (hs.env d (b = want) .top (by simp only [St.set]; rw [lk_cons, if_pos rfl])).2 hb
    · rename_i e
      exact hs.env s q v (by simp only [St.set]; rw [lk_cons, if_neg e]; exact hl), hs.blk, hs.vir, hs.inj⟩ Q' hq)
theorem nth_eq {α : Type} [Inhabited α] {l : List α} {k : Nat} (h : k < l.length) : nth l k = l[k] := by simp [nth, List.getD, List.getElem?_eq_getElem h]
theorem take_nth {α : Type} [Inhabited α] {l : List α} {k : Nat} (h : k < l.length) : l.take (k + 1) = l.take k ++ [nth l k] := by
  rw [List.take_add_one, List.getElem?_eq_getElem h, nth_eq h]; rfl
theorem PSub.of_eq {a b : PV} (h : a = b) : PSub a b := h ▸ PSub.refl a
end Lf
end
section
set_option linter.unusedVariables false
set_option linter.unusedSimpArgs false
set_option linter.unusedSectionVars false
namespace Lf
open Go Go.RowKit
section
variable {P : Program} {G : Ghost} {A : St} {a : Act} {w : World}
theorem callv_run {f : FuncId} {x : Operand} {vs : Array Value} {xs : List Operand} {ats : Array TypeId} {o : Oper} (ho : o.op = .call { callee := .value x, args := xs.toArray, argTypes := ats }) (hv : a.eval x = .func (.func f) #[] vs) (hf : FnOK P f) :
    (execOp a.eval o).run P w = .ok (.enter f ((xs.map a.eval).toArray ++ vs)) w := by
  obtain ⟨fn, h1, h2, h3⟩ := hf
  have e : execOp a.eval o = (do let d ← resolve a.eval { callee := .value x, args := xs.toArray, argTypes := ats } o.type; invoke d.target d.args) := by simp only [execOp, ho]
  rw [e]
  have h2' : ¬ fn.name = "runtime.NumGoroutine" := by simpa using h2
  have h3' : ¬ fn.body = none := by intro hx; rw [hx] at h3; cases h3
  simp only [resolve, hv, Deferred.ofValue, pure_bind, invoke, callFunc]
  simp [h1, h2', h3']
theorem rel_fn {Φ : Frz} {v : Value} {f : Nat} {caps : List Cell} (h : Rel Φ v (.fn f caps)) : ∃ vs : Array Value, v = .func (.func f) #[] vs ∧ vs.size = caps.length ∧ ∀ (j : Nat) (c : Cell), caps[j]? = some c → ∃ u, vs[j]? = some u ∧ Rel Φ u c := by
  cases h with
  | fn f caps vs g hlen hc hr => exact ⟨vs, rfl, hlen, fun j c hj => ⟨g j, hc j c hj, hr j c hj⟩⟩
theorem args_more {Φ : Frz} {vs us : Array Value} {ps : List PV} {caps : List Cell} (h : vs.size = ps.length) (h1 : ∀ (j : Nat) (p : PV), ps[j]? = some p → ∃ v, vs[j]? = some v ∧ PRel Φ v p) (hl : us.size = caps.length) (h2 : ∀ (j : Nat) (c : Cell), caps[j]? = some c → ∃ u, us[j]? = some u ∧ Rel Φ u c) :
    ArgsRel Φ (vs ++ us) (ps ++ caps.map PV.one) := by
  refine ⟨by simp [h, hl], fun j p hj => ?_⟩
  rw [List.getElem?_append] at hj
  split at hj
  · rename_i hlt
    obtain ⟨v, g1, g2⟩ := h1 j p hj
    exact ⟨v, by rw [Array.getElem?_append, if_pos (by omega)]; exact g1, g2⟩
  · rename_i hge
    rw [List.getElem?_map] at hj
    cases hc : caps[j - ps.length]? with
    | none => rw [hc] at hj; cases hj
    | some c =>
      rw [hc] at hj
      obtain rfl : PV.one c = p := by simpa using hj
      obtain ⟨u, g1, g2⟩ := h2 _ c hc
      exact ⟨u, by rw [Array.getElem?_append, if_neg (by omega), h]; exact g1, g2⟩
theorem P_callvd {o : Oper} {p : Prop} {f : FuncId} {x : Operand} {caps : List Cell} {xs : List Operand} {ats : Array TypeId} {ps : List PV} {r : AV} (ho : o.op = .call { callee := .value x, args := xs.toArray, argTypes := ats })
    (hc0 : Ev A p x (.pv (.one (.fn f caps)))) (hx : EvD A p xs ps) (hf : FnOK P f) (hc : p → ACalls P f (ps ++ caps.map PV.one) r) : PureOp P G A o p r := fun Φ β a w hs hp => by
  obtain ⟨us, e1, e2, e3⟩ := rel_fn (hs.ev hc0 hp)
  unfold Oper.wp
  rw [callv_run ho e1 hf]
  refine Calls.mono ((hc hp).calls Φ w _ hs.fits (args_more (by simp [evd_len hx]) (fun j q hq => ?_) e2 e3)) ?_
  · obtain ⟨x, h1, h2⟩ := evd_args hs hp hx j q hq
    exact ⟨a.eval x, by simp [h1], h2⟩
  · rintro e w' ⟨v, Φ', rfl, hv, hle, heq, hfit, hb⟩
    exact ⟨v, Φ', rfl, hv.ret, hle, heq, hfit, hb⟩
end
section
variable {P : Program} {G : Ghost} {n0 : Nat} {env : List (Nat × (Prop × AV))} {bl : List (Nat × Blk)} {p : Prop} {dst : Option Nat} {ty : TypeId} {pos : String} {after : Array Edge} {gd : Option (Nat × Bool)}
theorem Q_callvd {f : FuncId} {x : Operand} {caps : List Cell} {xs : List Operand} {ats : Array TypeId} {ps : List PV} {r : AV} (hc0 : Ev (St.mk n0 env bl) p x (.pv (.one (.fn f caps)))) (hx : EvD (St.mk n0 env bl) p xs ps) (hf : FnOK P f)
    (hc : p → ACalls P f (ps ++ caps.map PV.one) r) : PureOp P G (St.mk n0 env bl) ⟨dst, .call ⟨.value x, xs.toArray, ats⟩, ty, pos, after, gd⟩ p r := P_callvd rfl hc0 hx hf hc
end
end Lf
end
section
set_option linter.unusedVariables false
set_option linter.unusedSimpArgs false
set_option linter.unusedSectionVars false
namespace Lf
open Go Go.RowKit
open Go.ChangeMaps (setBlock)
open Go.MapKept (IsKey sameNow_of_keys run_checkKey run_findKey run_keyThatStays run_getObj_map run_setObj_map)
section
variable {P : Program} {G : Ghost} {A : St}
def EffF (P : Program) (G : Ghost) (A : St) (o : Oper) {σ : Type _} (F : σ → St) : Prop :=
  ∀ Φ β a w, Sat G Φ β A a w → o.wp P a w (fun a' w' => ∃ s Φ' β', Sat G Φ' β' (F s) a' w' ∧ Φ.le Φ') (fun _ _ _ => False)
theorem RG.effF {σ : Type _} {ops : Array Oper} {o : Oper} {rest : List Oper} {Q : St → Prop} {F : σ → St} (hg : o.guard = none) (hp : EffF P G A o F) (h : ∀ s, RG P G ops rest Q (F s)) : RG P G ops (o :: rest) Q A := fun Φ β a w hs Q' hq => by
  refine wpList_plain hg fun K hK => Oper.wp_mono' (hp Φ β a w hs) (fun a' w' ⟨s, Φ', β', hs', hle⟩ => hK _ _ ?_) (fun _ _ _ h => h.elim)
  exact h s Φ' β' a' w' hs' Q' fun A1 Φ1 β1 a1 w1 q s l => hq A1 Φ1 β1 a1 w1 q s (Frz.le_trans hle l)
theorem EffF.of_val {o : Oper} {σ : Type _} {F : σ → St} (h : ∀ Φ β a w, Sat G Φ β A a w → ∃ u w' s Φ' β', (execOp a.eval o).run P w = .ok (.value u) w' ∧ Sat G Φ' β' (F s) (a.put o.dst u) w' ∧ Φ.le Φ') : EffF P G A o F := fun Φ β a w hs => by
  obtain ⟨u, w', s, Φ', β', h1, h2, h3⟩ := h Φ β a w hs
  unfold Oper.wp
  rw [h1]
  exact ⟨s, Φ', β', h2, h3⟩
end
section
variable {P : Program} {G : Ghost} {A : St} {Φ : Frz} {β : Own} {a : Act} {w w' : World}
variable {α γ : Type} [DecidableEq α] {kc : α → Cell} {kt : TypeId}
variable {T : TT} (hT : TOK P T)
include hT
end
end Lf
end
section
set_option linter.unusedVariables false
set_option linter.unusedSimpArgs false
set_option linter.unusedSectionVars false
namespace Lf
open Go Go.RowKit
section
variable {P : Program} {G : Ghost} {A : St} {ops : Array Oper} {fuel : Nat} {L : List Bool} {Q : St → Prop}
/-- What is left of a region of which L has been carried out, in whatever order. -/
def RA (P : Program) (G : Ghost) (ops : Array Oper) (fuel : Nat) (L : List Bool) (Q : St → Prop) (A : St) : Prop :=
  ∀ Φ β a w, Sat G Φ β A a w → ∀ Q' : Exit → Act → World → Prop, (∀ A' Φ' β' a' w', Q A' → Sat G Φ' β' A' a' w' → Φ.le Φ' → Q' .normal a' w') → wpAny P .any ops Q' fuel L.toArray a w
def RAll (P : Program) (G : Ghost) (ops : Array Oper) (fuel : Nat) (L : List Bool) (Q : St → Prop) (A : St) : List Nat → Prop
  | [] => True
  | i :: is => (∃ o, ops[i]? = some o ∧ RG P G ops [o] (RA P G ops fuel (L.set i true) Q) A) ∧ RAll P G ops fuel L Q A is
theorem RAll.nil : RAll P G ops fuel L Q A [] := trivial
theorem RAll.cons {i : Nat} {is : List Nat} {o : Oper} (ho : ops[i]? = some o) (h : RG P G ops [o] (RA P G ops fuel (L.set i true) Q) A) (h' : RAll P G ops fuel L Q A is) : RAll P G ops fuel L Q A (i :: is) := ⟨⟨o, ho, h⟩, h'⟩
theorem RAll.get : ∀ {is : List Nat}, RAll P G ops fuel L Q A is → ∀ i ∈ is, ∃ o, ops[i]? = some o ∧ RG P G ops [o] (RA P G ops fuel (L.set i true) Q) A
  | j :: is, h, i, hi => by
    rcases List.mem_cons.1 hi with rfl | hm
    · exact h.1
    · exact RAll.get h.2 i hm
theorem RA.done (hr : Region.ready .any ops L.toArray = []) (h : Q A) : RA P G ops 0 L Q A := fun Φ β a w hs Q' hq => ⟨hr, hq A Φ β a w h hs Φ.le_refl⟩
theorem RA.step {i : Nat} {is : List Nat} (hr : Region.ready .any ops L.toArray = i :: is) (h : RAll P G ops fuel L Q A (i :: is)) : RA P G ops (fuel + 1) L Q A := fun Φ β a w hs Q' hq => by
  refine ⟨fun e => (by rw [hr] at e; cases e), fun j hj => ?_⟩
  rw [hr] at hj
  obtain ⟨o, ho, hg⟩ := h.get j hj
  let Q'' : Exit → Act → World → Prop := fun e a' w' => match e with
    | .normal => wpAny P .any ops Q' fuel (L.set j true).toArray a' w'
    | e => Q' e a' w'
  have h1 := hg Φ β a w hs Q'' fun A1 Φ1 β1 a1 w1 q s l => q Φ1 β1 a1 w1 s Q' fun A2 Φ2 β2 a2 w2 q2 s2 l2 => hq A2 Φ2 β2 a2 w2 q2 s2 (Frz.le_trans l l2)
  unfold wpList at h1
  unfold wpOp
  simp only [ho]
  have hk : ∀ a' w', wpList P ops Q'' [] a' w' → wpAny P .any ops Q' fuel (L.toArray.setIfInBounds j true) a' w' := fun a' w' h => by
    have : L.toArray.setIfInBounds j true = (L.set j true).toArray := by simp
    rw [this]; exact h
  split
  · rename_i hw
    rw [if_pos hw] at h1
    rcases h1 with h1 | ⟨h1, a2, w2, h2⟩
    · refine .inl ?_
      unfold Oper.wp at *
      revert h1
      generalize (execOp a.eval o).run P w = r
      intro h1
      cases r with
      | ok n w' =>
        cases n <;> simp only [Oper.upon] at h1 ⊢ <;>
          first
            | exact hk _ _ h1
            | exact Calls.mono h1 (fun e w'' he => by
                cases e <;> first
                  | exact hk _ _ he
                  | exact he
                  | (obtain ⟨a0, w0, h0⟩ := he; exact ⟨a0, w0, h0⟩))
            | exact Rows.mono h1 (fun _ _ he => hk _ _ he)
      | halt x w' => cases x <;> simp only [Oper.upon] at h1 ⊢ <;> exact h1
    · exact .inr ⟨h1, a2, w2, h2⟩
  · rename_i hw
    rw [if_neg hw] at h1
    exact hk _ _ h1
theorem W.drawA {id : Nat} {l : List Oper} {L : List Bool} {Q : Exit → St → Prop} (hm : P.follows .mixedOrders = true) (hL : List.replicate l.length false = L) (h : RA P G l.toArray l.length L (Q .normal) A) : W P G (.region id l.toArray true) Q A := fun Φ β a w hs => by
  refine wp_region_any hm ?_
  have hsz : l.toArray.size = l.length := by simp
  rw [hsz]
  have e : Array.replicate l.length false = L.toArray := by rw [← hL]; simp
  rw [e]
  exact h Φ β a { w with drawn := w.drawn + 1 } ⟨hs.kept.drew, hs.fits, hs.old, hs.siz, hs.dfr, hs.env, hs.blk, hs.vir, hs.inj⟩ _ fun A' Φ' β' a' w' q s le => ⟨A', Φ', β', q, s, le⟩
end
section
variable {P : Program} {G : Ghost} {A : St} {Φ : Frz} {β : Own} {a : Act} {w w' : World}
structure OCalls (P : Program) (f : FuncId) (args : List PV) (E sz : Nat) (rows : List (List Cell)) : Prop where
  fn : FnOK P f
  calls : ∀ (Φ : Frz) (w : World) (vs : Array Value), Fits Φ w → ArgsRel Φ vs args → Calls P f vs w (fun e w' => ∃ v Φ', e = .returned v ∧ ((v = .slice none 0 0 ∧ rows = []) ∨ ∃ b cap, v = .slice (some ⟨b, 0, none⟩) rows.length cap ∧ w.heap.size ≤ b ∧ BlkRel Φ' w' b cap ⟨E, sz, rows⟩ ∧ Φ' b = none) ∧
    Φ.le Φ' ∧ (∀ b, b < w.heap.size → Φ' b = Φ b) ∧ Fits Φ' w' ∧ Below w.heap.size w w')
/-- the end of such a function -/
def FinO (t E sz : Nat) (rows : List (List Cell)) (e : Exit) (A : St) : Prop := (e = .normal ∨ e = .ret) ∧ ((lk A.env t = some (True, .pv (.one .slnil)) ∧ rows = []) ∨ ∃ n, lk A.env t = some (True, .slc n) ∧ lk A.blks n = some ⟨E, sz, rows⟩)
theorem FinO.ret {t E sz n : Nat} {rows rows' : List (List Cell)} (h : lk A.env t = some (True, .slc n)) (hl : lk A.blks n = some ⟨E, sz, rows'⟩) (hr : rows' = rows) : FinO t E sz rows .ret A := ⟨.inr rfl, .inr ⟨n, h, hr ▸ hl⟩⟩
theorem FinO.nil {t E sz : Nat} {rows : List (List Cell)} (h : lk A.env t = some (True, .pv (.one .slnil))) (hr : rows = []) : FinO t E sz rows .ret A := ⟨.inr rfl, .inl ⟨h, hr⟩⟩
theorem sat_init {G : Ghost} {f : FuncId} {fn : Func} {args : List PV} {Φ : Frz} {w : World} {vs : Array Value} (hG : G = { w0 := w, K := fun b => b < w.heap.size, F0 := Φ, lt := fun b h => h }) (hfit : Fits Φ w) (harg : ArgsRel Φ vs args) :
    Sat G Φ (fun _ => none) (St.init fn.ntmps args) { tmps := vs ++ Array.replicate (fn.ntmps - vs.size) undef, defers := [] } w := by
  subst hG
  refine ⟨⟨rfl, rfl, rfl, Nat.le_refl _, fun b _ => rfl⟩, hfit, fun b _ => rfl, by simp [St.init]; omega, rfl, fun t q v hl => ?_, fun n B b cap h1 => by simp [St.init, lk] at h1, fun n B h1 => by simp [St.init, lk] at h1, fun n n' B B' b cap cap' h1 => by simp [St.init, lk] at h1⟩
  obtain ⟨_, rfl, p, hp, rfl⟩ := lk_init args 0 t q v hl
  refine ⟨fun _ => ?_, fun hq => (hq trivial).elim⟩
  obtain ⟨v, h1, h2⟩ := harg.2 (t - 0) p hp
  have hlt := (Array.getElem?_eq_some_iff.1 h1).1
  have : (vs ++ Array.replicate (fn.ntmps - vs.size) undef).getD t undef = v := by
    rw [Array.getD_eq_getD_getElem?, Array.getElem?_append_left (by simpa using hlt)]
    simp only [Nat.sub_zero] at h1
    rw [h1]; rfl
  show PRel Φ _ p
  rw [this]; exact h2
theorem OCalls.of_W {f : FuncId} {fn : Func} {c : Code} {args : List PV} {E sz : Nat} {rows : List (List Cell)} (t n : Nat) (hf : P.funcs[f]? = some fn) (hn : (fn.name == "runtime.NumGoroutine") = false) (hb : fn.body = some c)
    (hr : fn.results = #[.tmp t]) (hnt : fn.ntmps = n) (hE : Nat.ble mapTag E = false) (h : ∀ G, W P G c (FinO t E sz rows) (St.init n args)) : OCalls P f args E sz rows where
  fn := ⟨fn, hf, hn, by rw [hb]; rfl⟩
  calls := fun Φ w vs hfit harg => by
    subst hnt
    refine calls_of_wp hf hb (wp_mono (h _ Φ (fun _ => none) _ w (sat_init (f := f) rfl hfit harg)) fun e a' w' ⟨A', Φ', β', ⟨he, hres⟩, hs, hle⟩ => ?_)
    have hv : a'.defers = [] ∧ ∃ v, (results fn a'.tmps).run P w' = .ok v w' ∧ (∃ v1 Φ'', Ending.returned v = .returned v1 ∧ ((v1 = .slice none 0 0 ∧ rows = []) ∨ ∃ b cap, v1 = .slice (some ⟨b, 0, none⟩) rows.length cap ∧ w.heap.size ≤ b ∧ BlkRel Φ'' w' b cap ⟨E, sz, rows⟩ ∧ Φ'' b = none) ∧
        Φ.le Φ'' ∧ (∀ b, b < w.heap.size → Φ'' b = Φ b) ∧ Fits Φ'' w' ∧ Below w.heap.size w w') := by
      refine ⟨hs.dfr, _, run_results (ts := [t]) (by rw [hr]; rfl) _ _, _, Φ', rfl, ?_, hle, fun b hb => hs.old b hb, hs.fits, ⟨hs.kept.os, hs.kept.tape, hs.kept.output, hs.kept.size, hs.kept.block⟩⟩
      show ((a'.tmps.getD t undef) = _ ∧ _) ∨ _
      rcases hres with ⟨h1, h2⟩ | ⟨m, h1, h2⟩
      · have h3 : Rel Φ' (a'.tmps.getD t undef) .slnil := (hs.env t True _ h1).1 trivial
        refine .inl ⟨?_, h2⟩
        cases hv : a'.tmps.getD t undef <;> rw [hv] at h3 <;> cases h3
        rfl
      · obtain ⟨B, k1, k2, k3⟩ := (hs.env t True _ h1).1 trivial
        rw [h2] at k1
        obtain rfl := Option.some.inj k1
        rcases k3 with ⟨k3, k4⟩ | ⟨b, cap, k3, k4⟩
        · exact .inl ⟨k4, hs.vir m _ h2 k3⟩
        · obtain ⟨g1, g2, g3⟩ := hs.blk m _ b cap h2 k3
          refine .inr ⟨b, cap, k4, ?_, g1, g3⟩
          exact Nat.le_of_not_lt g2
    rcases he with rfl | rfl
    · exact hv
    · exact hv
theorem Sat.below {Φ' : Frz} (hs : Sat G Φ β A a w) (hle : Φ.le Φ') (heq : ∀ b, b < w.heap.size → Φ' b = Φ b) (hf : Fits Φ' w') (hb : Below w.heap.size w w') : Sat G Φ' β A a w' where
  kept := hs.kept.below hb
  fits := hf
  old := fun b hk => (heq b (Nat.lt_of_lt_of_le (G.lt b hk) hs.kept.size)).trans (hs.old b hk)
  siz := hs.siz
  dfr := hs.dfr
  env := fun t q v h => ⟨fun hq => ((hs.env t q v h).1 hq).mono hle, (hs.env t q v h).2⟩
  blk := fun n B b cap h1 h2 => by
    obtain ⟨h3, h4, h5⟩ := hs.blk n B b cap h1 h2
    exact ⟨blkRel_below hle hb h3, h4, by rw [heq b h3.lt]; exact h5⟩
  vir := hs.vir
  inj := hs.inj
theorem E_callo {o : Oper} {f : FuncId} {xs : List Operand} {ats : Array TypeId} {ps : List PV} {E sz d : Nat} {rows : List (List Cell)} (ho : o.op = .call { callee := .value (.func f), args := xs.toArray, argTypes := ats }) (hd : o.dst = some d) (hn : d < A.n)
    (hx : EvD A True xs ps) (hE : Nat.ble mapTag E = false) (hc : OCalls P f ps E sz rows) : EffOp P G A o ((A.bind d d ⟨E, sz, rows⟩).set d True (.slc d)) := fun Φ β a w hs => by
  unfold Oper.wp
  rw [call_run ho hc.fn]
  refine Calls.mono (hc.calls Φ w _ hs.fits ⟨by simp [evd_len hx], fun j q hq => ?_⟩) ?_
  · obtain ⟨x, h1, h2⟩ := evd_args hs trivial hx j q hq
    exact ⟨a.eval x, by simp [h1], h2⟩
  · rintro e w' ⟨v, Φ', rfl, hv, hle, heq, hfit, hb⟩
    have hs' := hs.below hle heq hfit hb
    show ∃ Φ'' β', Sat G Φ'' β' _ (a.put o.dst v) w' ∧ Φ.le Φ''
    rw [hd]
    rcases hv with ⟨rfl, rfl⟩ | ⟨b, cap, rfl, h1, h2, h3⟩
    · exact ⟨Φ', _, (hs'.bindNil (d := d) (n := d) (E := E) (sz := sz)).putNil hn (by simp only [St.bind]; rw [lk_cons, if_pos rfl]) (by exact hE) (by simp), hle⟩
    · have hbd := hs'.bind (w' := w') (d := d) (n := d) (b := b) (cap := cap) (B := ⟨E, sz, rows⟩) (row := none) ⟨rfl, rfl, rfl, Nat.le_refl _, fun _ _ _ => rfl⟩ (fun k e => by cases e) h2
        (fun hk => by have := G.lt b hk; have := hs.kept.size; omega) h3 (fun m B' cap' _ _ q1 q2 => by have := (hs.blk m B' b cap' q1 q2).1.lt; omega)
      exact ⟨Φ', _, hbd.putSlc hn (by simp only [St.bind]; rw [lk_cons, if_pos rfl]) (by exact hE) bindOwn_self, hle⟩
end
section
variable {P : Program} {G : Ghost} {ops : Array Oper} {rest : List Oper} {Q : St → Prop} {n0 : Nat} {env : List (Nat × (Prop × AV))} {bl : List (Nat × Blk)} {p : Prop} {dst : Option Nat} {ty : TypeId} {pos : String} {after : Array Edge} {gd : Option (Nat × Bool)}
def EvC (A : St) (p : Prop) : List Operand → List Cell → Prop
  | [], [] => True
  | x :: xs, c :: cs => Ev A p x (.pv (.one c)) ∧ EvC A p xs cs
  | _, _ => False
theorem EvC.nil {A : St} : EvC A p [] [] := trivial
theorem EvC.cons {A : St} {x : Operand} {c : Cell} {xs : List Operand} {cs : List Cell} (h : Ev A p x (.pv (.one c))) (h' : EvC A p xs cs) : EvC A p (x :: xs) (c :: cs) := ⟨h, h'⟩
theorem evc_get {A : St} {Φ : Frz} {β : Own} {a : Act} {w : World} (hs : Sat G Φ β A a w) (hp : p) : ∀ {xs : List Operand} {cs : List Cell}, EvC A p xs cs → xs.length = cs.length ∧ ∀ (j : Nat) (c : Cell), cs[j]? = some c → ∃ x, xs[j]? = some x ∧ Rel Φ (a.eval x) c
  | [], [], _ => ⟨rfl, fun j c h => by simp at h⟩
  | x :: xs, c :: cs, ⟨h1, h2⟩ => by
    obtain ⟨g1, g2⟩ := evc_get hs hp h2
    refine ⟨by simp [g1], fun j d hj => ?_⟩
    cases j with
    | zero => simp at hj; subst hj; exact ⟨x, rfl, hs.ev h1 hp⟩
    | succ j => simpa using g2 j d (by simpa using hj)
/-- a function value that holds data -/
theorem Q_makeFunc {f : Nat} {xs : List Operand} {cs : List Cell} (hx : EvC (St.mk n0 env bl) p xs cs) : PureOp P G (St.mk n0 env bl) ⟨dst, .makeFunc (.func f) #[] xs.toArray, ty, pos, after, gd⟩ p (.pv (.one (.fn f cs))) := PureOp.val fun Φ β a w hs hp => by
  obtain ⟨h1, h2⟩ := evc_get hs hp hx
  refine ⟨.func (.func f) #[] (xs.map a.eval).toArray, by simp [execOp, Instr.makeFunc], Rel.fn f cs _ (fun j => ((xs.map a.eval)[j]?).getD .nilFunc) (by simp [h1]) (fun j c hj => ?_) (fun j c hj => ?_)⟩
  · obtain ⟨x, k1, k2⟩ := h2 j c hj
    simp [k1]
  · obtain ⟨x, k1, k2⟩ := h2 j c hj
    simp [k1, k2]
theorem S_callo {d E sz : Nat} {rows : List (List Cell)} {f : FuncId} {xs : List Operand} {ats : Array TypeId} {ps : List PV} (hc : OCalls P f ps E sz rows) (hE : Nat.ble mapTag E = false) (hfr : lk bl d = none) (hn : Nat.blt d n0 = true) (hx : EvD (St.mk n0 env bl) True xs ps)
    (h : RG P G ops rest Q (St.mk n0 ((d, (True, .slc d)) :: env) ((d, ⟨E, sz, rows⟩) :: bl))) : RG P G ops (⟨some d, .call ⟨.value (.func f), xs.toArray, ats⟩, ty, pos, after, none⟩ :: rest) Q (St.mk n0 env bl) :=
  RG.eff rfl (EffOp.fresh hfr (E_callo rfl rfl (blt_lt hn) hx hE hc)) h
variable {T : TT} (hT : TOK P T)
include hT
/-- a slice that came in, held against nil -/
theorem S_isnil {t e d yt : Nat} {x : Operand} {ti : TI} {rows : List (List Cell)} (ht : T t = some ti) (hk : ti.kind = .slice e) (hn : Nat.blt d n0 = true) (hx : Ev (St.mk n0 env bl) True x (.pv (.one (.sl rows))))
    (h : ∀ b : Bool, (b = true → rows = []) → RG P G ops rest Q (St.mk n0 ((d, (True, .pv (.one (.bool b)))) :: env) bl)) : RG P G ops (⟨some d, .binOp .eql t x (.const (.slice none 0 0)) yt, ty, pos, after, none⟩ :: rest) Q (St.mk n0 env bl) := by
  refine RG.effF (F := fun s : { b : Bool // b = true → rows = [] } => St.mk n0 ((d, (True, .pv (.one (.bool s.1)))) :: env) bl) rfl (EffF.of_val fun Φ β a w hs => ?_) fun s => h s.1 s.2
  have hu : P.underlying t = some (.slice e) := by have := (hT _ _ ht).kind; rw [hk] at this; exact this
  have hr : Rel Φ (a.eval x) (.sl rows) := hs.ev hx trivial
  obtain ⟨ad, len, cap, hv, hz⟩ : ∃ ad len cap, a.eval x = .slice ad len cap ∧ (ad.isNone = true → rows = []) := by
    generalize a.eval x = v at hr
    cases hr with
    | sl0 => exact ⟨_, _, _, rfl, fun _ => rfl⟩
    | slE a cap => exact ⟨_, _, _, rfl, fun h => by cases h⟩
    | sl b off len cap sz rows f => exact ⟨_, _, _, rfl, fun h => by cases h⟩
  refine ⟨.bool ad.isNone, w, ⟨ad.isNone, hz⟩, Φ, β, exec_val (m := do eqGuard .eql t x (.const (.slice none 0 0)) (a.eval x) (a.eval (.const (.slice none 0 0))); binOp .eql t (a.eval x) (a.eval (.const (.slice none 0 0)))) (by simp only [execOp]) ?_, hs.put (blt_lt hn) (Rel.bool _), Φ.le_refl⟩
  have e1 : a.eval (.const (.slice none 0 0)) = .slice none 0 0 := rfl
  rw [hv, e1]
  have e2 : eqGuard .eql t x (.const (.slice none 0 0)) (.slice ad len cap) (.slice none 0 0) = pure () := rfl
  rw [e2]
  simp only [pure_bind, binOp]
  have e3 : (Op.equal t (.slice ad len cap) (.slice none 0 0)).run P w = .ok ad.isNone w := by
    rw [Op.equal, Op.maxDepth, Op.equalIn]; cases ad <;> simp [run_underlying hu]
  simp [e3]
variable {α γ : Type} [DecidableEq α] {kc : α → Cell} {kt : TypeId}
end
theorem strAt {l : List UInt8} {k : Nat} (h : k < l.length) : 0 ≤ (k : Int) ∧ l[(k : Int).toNat]? = some (nth l k) := by
  refine ⟨Int.natCast_nonneg k, ?_⟩
  simp [List.getElem?_eq_getElem h, nth, List.getD]
/-- arguments, and behind them what a function value holds -/
def EvA (A : St) (p : Prop) (caps : List Cell) : List Operand → List PV → Prop
  | [], qs => qs = caps.map PV.one
  | x :: xs, q :: qs => (∃ r, Ev A p x (.pv r) ∧ PSub r q) ∧ EvA A p caps xs qs
  | _, _ => False
theorem EvA.nil {A : St} {p : Prop} {caps : List Cell} {qs : List PV} (h : qs = caps.map PV.one) : EvA A p caps [] qs := h
theorem EvA.cons {A : St} {p : Prop} {caps : List Cell} {x : Operand} {xs : List Operand} {q r : PV} {qs : List PV} (h : Ev A p x (.pv r)) (hs : PSub r q) (ht : EvA A p caps xs qs) : EvA A p caps (x :: xs) (q :: qs) := ⟨⟨r, h, hs⟩, ht⟩
theorem EvA.split {A : St} {p : Prop} {caps : List Cell} : ∀ {xs : List Operand} {as1 : List PV}, EvA A p caps xs as1 → ∃ ps, as1 = ps ++ caps.map PV.one ∧ EvD A p xs ps
  | [], qs, h => ⟨[], h, trivial⟩
  | x :: xs, q :: qs, ⟨h1, h2⟩ => by
    obtain ⟨ps, rfl, h3⟩ := EvA.split h2
    exact ⟨q :: ps, rfl, h1, h3⟩
theorem Q_callvA {P : Program} {G : Ghost} {n0 : Nat} {env : List (Nat × (Prop × AV))} {bl : List (Nat × Blk)} {p : Prop} {dst : Option Nat} {ty : TypeId} {pos : String} {after : Array Edge} {gd : Option (Nat × Bool)} {f : FuncId} {x : Operand} {caps : List Cell} {xs : List Operand} {ats : Array TypeId} {as1 : List PV} {r : AV}
    (hc : ACalls P f as1 r) (hc0 : Ev (St.mk n0 env bl) p x (.pv (.one (.fn f caps)))) (hx : EvA (St.mk n0 env bl) p caps xs as1) : PureOp P G (St.mk n0 env bl) ⟨dst, .call ⟨.value x, xs.toArray, ats⟩, ty, pos, after, gd⟩ p r := by
  obtain ⟨ps, rfl, h⟩ := hx.split
  exact Q_callvd hc0 h hc.fn fun _ => hc
/-- the rows of an own block stand still from here on; a function value that holds pointers into it -/
theorem S_makeFuncF {P : Program} {G : Ghost} {ops : Array Oper} {rest : List Oper} {Q : St → Prop} {n0 : Nat} {env : List (Nat × (Prop × AV))} {bl : List (Nat × Blk)} {ty : TypeId} {pos : String} {after : Array Edge} {d f : Nat} {xs : List Operand} {cs : List Cell} (hx : EvC (St.mk n0 (frzE bl env) []) True xs cs) (hn : Nat.blt d n0 = true)
    (h : RG P G ops rest Q (St.mk n0 ((d, (True, .pv (.one (.fn f cs)))) :: frzE bl env) [])) : RG P G ops (⟨some d, .makeFunc (.func f) #[] xs.toArray, ty, pos, after, none⟩ :: rest) Q (St.mk n0 env bl) :=
  RG.weaken Le.freeze (U_ (Q_makeFunc hx) hn h)
theorem nth_mem {α : Type} [Inhabited α] {l : List α} {k : Nat} (h : k < l.length) : nth l k ∈ l := by
  rw [nth, List.getD, List.getElem?_eq_getElem h]; exact List.getElem_mem h
end Lf
end
section
set_option maxRecDepth 100000
set_option maxHeartbeats 4000000
namespace Go.Proofs.Ytppdbmobcfedcaa
open Lf
def TYL : List (Nat × Lf.TI) := [
  (1, ⟨.func, 1, 8, .one (.nilf)⟩),
  (2, ⟨.int .i64, 1, 8, .one (.int .i64 0)⟩),
  (3, ⟨.int .i64, 1, 8, .one (.int .i64 0)⟩),
  (4, ⟨.bool, 1, 1, .one (.bool false)⟩),
  (5, ⟨.int .u8, 1, 1, .one (.int .u8 0)⟩),
  (6, ⟨.int .u8, 1, 1, .one (.int .u8 0)⟩),
  (7, ⟨.struct [(0, 2), (1, 3), (2, 4), (3, 6)], 4, 24, .agg [.int .i64 0, .int .i64 0, .bool false, .int .u8 0]⟩),
  (8, ⟨.struct [(0, 2), (1, 3), (2, 4), (3, 6)], 4, 24, .agg [.int .i64 0, .int .i64 0, .bool false, .int .u8 0]⟩),
  (9, ⟨.string, 1, 16, .one (.str [])⟩),
  (10, ⟨.string, 1, 16, .one (.str [])⟩),
  (11, ⟨.string, 1, 16, .one (.str [])⟩),
  (12, ⟨.int .u64, 1, 8, .one (.int .u64 0)⟩),
  (13, ⟨.struct [(0, 9), (1, 12)], 2, 24, .agg [.str [], .int .u64 0]⟩),
  (14, ⟨.struct [(0, 9), (1, 12)], 2, 24, .agg [.str [], .int .u64 0]⟩),
  (15, ⟨.ptr 101, 1, 8, .one (.nilp)⟩),
  (16, ⟨.ptr 104, 1, 8, .one (.nilp)⟩),
  (17, ⟨.ptr 114, 1, 8, .one (.nilp)⟩),
  (18, ⟨.struct [(0, 17)], 1, 8, .agg [.nilp]⟩),
  (19, ⟨.struct [(0, 17)], 1, 8, .agg [.nilp]⟩),
  (20, ⟨.iface, 1, 16, .one (.nili)⟩),
  (21, ⟨.int .i32, 1, 4, .one (.int .i32 0)⟩),
  (22, ⟨.slice 44, 1, 24, .one (.slnil)⟩),
  (23, ⟨.slice 25, 1, 24, .one (.slnil)⟩),
  (24, ⟨.struct [(0, 3), (1, 3), (2, 3), (3, 9), (4, 23)], 5, 64, .agg [.int .i64 0, .int .i64 0, .int .i64 0, .str [], .slnil]⟩),
  (25, ⟨.struct [(0, 3), (1, 3), (2, 3), (3, 9), (4, 23)], 5, 64, .agg [.int .i64 0, .int .i64 0, .int .i64 0, .str [], .slnil]⟩),
  (26, ⟨.slice 46, 1, 24, .one (.slnil)⟩),
  (27, ⟨.slice 9, 1, 24, .one (.slnil)⟩),
  (28, ⟨.slice 74, 1, 24, .one (.slnil)⟩),
  (29, ⟨.struct [(0, 9), (1, 9), (2, 3), (3, 3), (4, 3), (5, 3), (6, 3), (7, 3), (8, 3), (9, 3), (10, 22), (11, 25), (16, 3), (17, 26), (18, 27), (19, 3), (20, 28), (21, 3), (22, 3), (23, 3), (24, 3)], 25, 304, .agg [.str [], .str [], .int .i64 0, .int .i64 0, .int .i64 0, .int .i64 0, .int .i64 0, .int .i64 0, .int .i64 0, .int .i64 0, .slnil, .int .i64 0, .int .i64 0, .int .i64 0, .str [], .slnil, .int .i64 0, .slnil, .slnil, .int .i64 0, .slnil, .int .i64 0, .int .i64 0, .int .i64 0, .int .i64 0]⟩),
  (30, ⟨.struct [(0, 9), (1, 9), (2, 3), (3, 3), (4, 3), (5, 3), (6, 3), (7, 3), (8, 3), (9, 3), (10, 22), (11, 25), (16, 3), (17, 26), (18, 27), (19, 3), (20, 28), (21, 3), (22, 3), (23, 3), (24, 3)], 25, 304, .agg [.str [], .str [], .int .i64 0, .int .i64 0, .int .i64 0, .int .i64 0, .int .i64 0, .int .i64 0, .int .i64 0, .int .i64 0, .slnil, .int .i64 0, .int .i64 0, .int .i64 0, .str [], .slnil, .int .i64 0, .slnil, .slnil, .int .i64 0, .slnil, .int .i64 0, .int .i64 0, .int .i64 0, .int .i64 0]⟩),
  (31, ⟨.func, 1, 8, .one (.nilf)⟩),
  (32, ⟨.func, 1, 8, .one (.nilf)⟩),
  (33, ⟨.slice 3, 1, 24, .one (.slnil)⟩),
  (34, ⟨.int .i64, 1, 8, .one (.int .i64 0)⟩),
  (36, ⟨.func, 1, 8, .one (.nilf)⟩),
  (37, ⟨.func, 1, 8, .one (.nilf)⟩),
  (38, ⟨.func, 1, 8, .one (.nilf)⟩),
  (39, ⟨.func, 1, 8, .one (.nilf)⟩),
  (41, ⟨.func, 1, 8, .one (.nilf)⟩),
  (42, ⟨.func, 1, 8, .one (.nilf)⟩),
  (43, ⟨.struct [(0, 9), (1, 25)], 6, 80, .agg [.str [], .int .i64 0, .int .i64 0, .int .i64 0, .str [], .slnil]⟩),
  (44, ⟨.struct [(0, 9), (1, 25)], 6, 80, .agg [.str [], .int .i64 0, .int .i64 0, .int .i64 0, .str [], .slnil]⟩),
  (45, ⟨.struct [(0, 9), (1, 25), (6, 3)], 7, 88, .agg [.str [], .int .i64 0, .int .i64 0, .int .i64 0, .str [], .slnil, .int .i64 0]⟩),
  (46, ⟨.struct [(0, 9), (1, 25), (6, 3)], 7, 88, .agg [.str [], .int .i64 0, .int .i64 0, .int .i64 0, .str [], .slnil, .int .i64 0]⟩),
  (47, ⟨.func, 1, 8, .one (.nilf)⟩),
  (48, ⟨.func, 1, 8, .one (.nilf)⟩),
  (49, ⟨.func, 1, 8, .one (.nilf)⟩),
  (50, ⟨.func, 1, 8, .one (.nilf)⟩),
  (51, ⟨.func, 1, 8, .one (.nilf)⟩),
  (52, ⟨.func, 1, 8, .one (.nilf)⟩),
  (53, ⟨.func, 1, 8, .one (.nilf)⟩),
  (54, ⟨.func, 1, 8, .one (.nilf)⟩),
  (55, ⟨.func, 1, 8, .one (.nilf)⟩),
  (56, ⟨.struct [(0, 33), (1, 34)], 2, 32, .agg [.slnil, .int .i64 0]⟩),
  (57, ⟨.struct [(0, 33), (1, 34)], 2, 32, .agg [.slnil, .int .i64 0]⟩),
  (59, ⟨.struct [(0, 22), (1, 33)], 2, 48, .agg [.slnil, .slnil]⟩),
  (60, ⟨.struct [(0, 22), (1, 33)], 2, 48, .agg [.slnil, .slnil]⟩),
  (61, ⟨.func, 1, 8, .one (.nilf)⟩),
  (62, ⟨.func, 1, 8, .one (.nilf)⟩),
  (63, ⟨.struct [(0, 3), (1, 33), (2, 34)], 3, 40, .agg [.int .i64 0, .slnil, .int .i64 0]⟩),
  (64, ⟨.struct [(0, 3), (1, 33), (2, 34)], 3, 40, .agg [.int .i64 0, .slnil, .int .i64 0]⟩),
  (65, ⟨.func, 1, 8, .one (.nilf)⟩),
  (66, ⟨.func, 1, 8, .one (.nilf)⟩),
  (67, ⟨.func, 1, 8, .one (.nilf)⟩),
  (68, ⟨.func, 1, 8, .one (.nilf)⟩),
  (69, ⟨.func, 1, 8, .one (.nilf)⟩),
  (70, ⟨.func, 1, 8, .one (.nilf)⟩),
  (71, ⟨.func, 1, 8, .one (.nilf)⟩),
  (72, ⟨.func, 1, 8, .one (.nilf)⟩),
  (73, ⟨.struct [(0, 3), (1, 3)], 2, 16, .agg [.int .i64 0, .int .i64 0]⟩),
  (74, ⟨.struct [(0, 3), (1, 3)], 2, 16, .agg [.int .i64 0, .int .i64 0]⟩),
  (75, ⟨.func, 1, 8, .one (.nilf)⟩),
  (76, ⟨.func, 1, 8, .one (.nilf)⟩),
  (77, ⟨.func, 1, 8, .one (.nilf)⟩),
  (78, ⟨.func, 1, 8, .one (.nilf)⟩),
  (79, ⟨.func, 1, 8, .one (.nilf)⟩),
  (80, ⟨.func, 1, 8, .one (.nilf)⟩),
  (81, ⟨.func, 1, 8, .one (.nilf)⟩),
  (82, ⟨.func, 1, 8, .one (.nilf)⟩),
  (83, ⟨.func, 1, 8, .one (.nilf)⟩),
  (84, ⟨.func, 1, 8, .one (.nilf)⟩),
  (85, ⟨.func, 1, 8, .one (.nilf)⟩),
  (86, ⟨.func, 1, 8, .one (.nilf)⟩),
  (87, ⟨.func, 1, 8, .one (.nilf)⟩),
  (88, ⟨.func, 1, 8, .one (.nilf)⟩),
  (89, ⟨.func, 1, 8, .one (.nilf)⟩),
  (90, ⟨.func, 1, 8, .one (.nilf)⟩),
  (91, ⟨.func, 1, 8, .one (.nilf)⟩),
  (92, ⟨.func, 1, 8, .one (.nilf)⟩),
  (93, ⟨.func, 1, 8, .one (.nilf)⟩),
  (94, ⟨.func, 1, 8, .one (.nilf)⟩),
  (95, ⟨.func, 1, 8, .one (.nilf)⟩),
  (96, ⟨.func, 1, 8, .one (.nilf)⟩),
  (97, ⟨.func, 1, 8, .one (.nilf)⟩),
  (98, ⟨.func, 1, 8, .one (.nilf)⟩),
  (99, ⟨.func, 1, 8, .one (.nilf)⟩),
  (100, ⟨.struct [(0, 17), (1, 17), (2, 17), (3, 9)], 4, 40, .agg [.nilp, .nilp, .nilp, .str []]⟩),
  (101, ⟨.struct [(0, 17), (1, 17), (2, 17), (3, 9)], 4, 40, .agg [.nilp, .nilp, .nilp, .str []]⟩),
  (105, ⟨.func, 1, 8, .one (.nilf)⟩),
  (106, ⟨.int .u32, 1, 4, .one (.int .u32 0)⟩),
  (107, ⟨.int .u8, 1, 1, .one (.int .u8 0)⟩),
  (108, ⟨.int .u8, 1, 1, .one (.int .u8 0)⟩),
  (109, ⟨.func, 1, 8, .one (.nilf)⟩),
  (110, ⟨.ptr 5, 1, 8, .one (.nilp)⟩),
  (111, ⟨.int .i32, 1, 4, .one (.int .i32 0)⟩),
  (112, ⟨.int .i32, 1, 4, .one (.int .i32 0)⟩),
  (113, ⟨.struct [(0, 12), (1, 12), (2, 106), (3, 107), (4, 5), (5, 5), (6, 108), (7, 109), (8, 110), (9, 111), (10, 112)], 11, 48, .agg [.int .u64 0, .int .u64 0, .int .u32 0, .int .u8 0, .int .u8 0, .int .u8 0, .int .u8 0, .nilf, .nilp, .int .i32 0, .int .i32 0]⟩),
  (114, ⟨.struct [(0, 12), (1, 12), (2, 106), (3, 107), (4, 5), (5, 5), (6, 108), (7, 109), (8, 110), (9, 111), (10, 112)], 11, 48, .agg [.int .u64 0, .int .u64 0, .int .u32 0, .int .u8 0, .int .u8 0, .int .u8 0, .int .u8 0, .nilf, .nilp, .int .i32 0, .int .i32 0]⟩)]
def TY : Lf.TT := Lf.lk TYL
theorem TYok : Lf.TOK Try.prog TY := Lf.TOK.of_list (
  Lf.AllOK.cons (Lf.TI.ok_mk (z := .nilFunc) (Lf.TK.ok_func (by kernel_rfl)) (by kernel_rfl) (fun _ => Lf.Rel.nilf)) (
  Lf.AllOK.cons (Lf.TI.ok_mk (z := .int .i64 0) ((by kernel_rfl : Try.prog.underlying 2 = _)) (by kernel_rfl) (fun _ => Lf.Rel.int _ _)) (
  Lf.AllOK.cons (Lf.TI.ok_mk (z := .int .i64 0) ((by kernel_rfl : Try.prog.underlying 3 = _)) (by kernel_rfl) (fun _ => Lf.Rel.int _ _)) (
  Lf.AllOK.cons (Lf.TI.ok_mk (z := .bool false) ((by kernel_rfl : Try.prog.underlying 4 = _)) (by kernel_rfl) (fun _ => Lf.Rel.bool _)) (
  Lf.AllOK.cons (Lf.TI.ok_mk (z := .int .u8 0) ((by kernel_rfl : Try.prog.underlying 5 = _)) (by kernel_rfl) (fun _ => Lf.Rel.int _ _)) (
  Lf.AllOK.cons (Lf.TI.ok_mk (z := .int .u8 0) ((by kernel_rfl : Try.prog.underlying 6 = _)) (by kernel_rfl) (fun _ => Lf.Rel.int _ _)) (
  Lf.AllOK.cons (Lf.TI.ok_mk (z := .agg #[.int .i64 0, .int .i64 0, .bool false, .int .u8 0]) (Lf.TK.ok_struct (by kernel_rfl)) (by kernel_rfl) (fun _ => ⟨_, rfl, ⟨.int _ _, .int _ _, .bool _, .int _ _, trivial⟩⟩)) (
  Lf.AllOK.cons (Lf.TI.ok_mk (z := .agg #[.int .i64 0, .int .i64 0, .bool false, .int .u8 0]) (Lf.TK.ok_struct (by kernel_rfl)) (by kernel_rfl) (fun _ => ⟨_, rfl, ⟨.int _ _, .int _ _, .bool _, .int _ _, trivial⟩⟩)) (
  Lf.AllOK.cons (Lf.TI.ok_mk (z := .string ⟨#[]⟩) ((by kernel_rfl : Try.prog.underlying 9 = _)) (by kernel_rfl) (fun _ => Lf.Rel.str ⟨#[]⟩)) (
  Lf.AllOK.cons (Lf.TI.ok_mk (z := .string ⟨#[]⟩) ((by kernel_rfl : Try.prog.underlying 10 = _)) (by kernel_rfl) (fun _ => Lf.Rel.str ⟨#[]⟩)) (
  Lf.AllOK.cons (Lf.TI.ok_mk (z := .string ⟨#[]⟩) ((by kernel_rfl : Try.prog.underlying 11 = _)) (by kernel_rfl) (fun _ => Lf.Rel.str ⟨#[]⟩)) (
  Lf.AllOK.cons (Lf.TI.ok_mk (z := .int .u64 0) ((by kernel_rfl : Try.prog.underlying 12 = _)) (by kernel_rfl) (fun _ => Lf.Rel.int _ _)) (
  Lf.AllOK.cons (Lf.TI.ok_mk (z := .agg #[.string ⟨#[]⟩, .int .u64 0]) (Lf.TK.ok_struct (by kernel_rfl)) (by kernel_rfl) (fun _ => ⟨_, rfl, ⟨.str ⟨#[]⟩, .int _ _, trivial⟩⟩)) (
  Lf.AllOK.cons (Lf.TI.ok_mk (z := .agg #[.string ⟨#[]⟩, .int .u64 0]) (Lf.TK.ok_struct (by kernel_rfl)) (by kernel_rfl) (fun _ => ⟨_, rfl, ⟨.str ⟨#[]⟩, .int _ _, trivial⟩⟩)) (
  Lf.AllOK.cons (Lf.TI.ok_mk (z := .pointer none) ((by kernel_rfl : Try.prog.underlying 15 = _)) (by kernel_rfl) (fun _ => Lf.Rel.nilp)) (
  Lf.AllOK.cons (Lf.TI.ok_mk (z := .pointer none) ((by kernel_rfl : Try.prog.underlying 16 = _)) (by kernel_rfl) (fun _ => Lf.Rel.nilp)) (
  Lf.AllOK.cons (Lf.TI.ok_mk (z := .pointer none) ((by kernel_rfl : Try.prog.underlying 17 = _)) (by kernel_rfl) (fun _ => Lf.Rel.nilp)) (
  Lf.AllOK.cons (Lf.TI.ok_mk (z := .agg #[.pointer none]) (Lf.TK.ok_struct (by kernel_rfl)) (by kernel_rfl) (fun _ => ⟨_, rfl, ⟨.nilp, trivial⟩⟩)) (
  Lf.AllOK.cons (Lf.TI.ok_mk (z := .agg #[.pointer none]) (Lf.TK.ok_struct (by kernel_rfl)) (by kernel_rfl) (fun _ => ⟨_, rfl, ⟨.nilp, trivial⟩⟩)) (
  Lf.AllOK.cons (Lf.TI.ok_mk (z := .nilIface) (Lf.TK.ok_iface (by kernel_rfl)) (by kernel_rfl) (fun _ => Lf.Rel.nili)) (
  Lf.AllOK.cons (Lf.TI.ok_mk (z := .int .i32 0) ((by kernel_rfl : Try.prog.underlying 21 = _)) (by kernel_rfl) (fun _ => Lf.Rel.int _ _)) (
  Lf.AllOK.cons (Lf.TI.ok_mk (z := .slice none 0 0) ((by kernel_rfl : Try.prog.underlying 22 = _)) (by kernel_rfl) (fun _ => Lf.Rel.slnil)) (
  Lf.AllOK.cons (Lf.TI.ok_mk (z := .slice none 0 0) ((by kernel_rfl : Try.prog.underlying 23 = _)) (by kernel_rfl) (fun _ => Lf.Rel.slnil)) (
  Lf.AllOK.cons (Lf.TI.ok_mk (z := .agg #[.int .i64 0, .int .i64 0, .int .i64 0, .string ⟨#[]⟩, .slice none 0 0]) (Lf.TK.ok_struct (by kernel_rfl)) (by kernel_rfl) (fun _ => ⟨_, rfl, ⟨.int _ _, .int _ _, .int _ _, .str ⟨#[]⟩, .slnil, trivial⟩⟩)) (
  Lf.AllOK.cons (Lf.TI.ok_mk (z := .agg #[.int .i64 0, .int .i64 0, .int .i64 0, .string ⟨#[]⟩, .slice none 0 0]) (Lf.TK.ok_struct (by kernel_rfl)) (by kernel_rfl) (fun _ => ⟨_, rfl, ⟨.int _ _, .int _ _, .int _ _, .str ⟨#[]⟩, .slnil, trivial⟩⟩)) (
  Lf.AllOK.cons (Lf.TI.ok_mk (z := .slice none 0 0) ((by kernel_rfl : Try.prog.underlying 26 = _)) (by kernel_rfl) (fun _ => Lf.Rel.slnil)) (
  Lf.AllOK.cons (Lf.TI.ok_mk (z := .slice none 0 0) ((by kernel_rfl : Try.prog.underlying 27 = _)) (by kernel_rfl) (fun _ => Lf.Rel.slnil)) (
  Lf.AllOK.cons (Lf.TI.ok_mk (z := .slice none 0 0) ((by kernel_rfl : Try.prog.underlying 28 = _)) (by kernel_rfl) (fun _ => Lf.Rel.slnil)) (
  Lf.AllOK.cons (Lf.TI.ok_mk (z := .agg #[.string ⟨#[]⟩, .string ⟨#[]⟩, .int .i64 0, .int .i64 0, .int .i64 0, .int .i64 0, .int .i64 0, .int .i64 0, .int .i64 0, .int .i64 0, .slice none 0 0, .int .i64 0, .int .i64 0, .int .i64 0, .string ⟨#[]⟩, .slice none 0 0, .int .i64 0, .slice none 0 0, .slice none 0 0, .int .i64 0, .slice none 0 0, .int .i64 0, .int .i64 0, .int .i64 0, .int .i64 0]) (Lf.TK.ok_struct (by kernel_rfl)) (by kernel_rfl) (fun _ => ⟨_, rfl, ⟨.str ⟨#[]⟩, .str ⟨#[]⟩, .int _ _, .int _ _, .int _ _, .int _ _, .int _ _, .int _ _, .int _ _, .int _ _, .slnil, .int _ _, .int _ _, .int _ _, .str ⟨#[]⟩, .slnil, .int _ _, .slnil, .slnil, .int _ _, .slnil, .int _ _, .int _ _, .int _ _, .int _ _, trivial⟩⟩)) (
  Lf.AllOK.cons (Lf.TI.ok_mk (z := .agg #[.string ⟨#[]⟩, .string ⟨#[]⟩, .int .i64 0, .int .i64 0, .int .i64 0, .int .i64 0, .int .i64 0, .int .i64 0, .int .i64 0, .int .i64 0, .slice none 0 0, .int .i64 0, .int .i64 0, .int .i64 0, .string ⟨#[]⟩, .slice none 0 0, .int .i64 0, .slice none 0 0, .slice none 0 0, .int .i64 0, .slice none 0 0, .int .i64 0, .int .i64 0, .int .i64 0, .int .i64 0]) (Lf.TK.ok_struct (by kernel_rfl)) (by kernel_rfl) (fun _ => ⟨_, rfl, ⟨.str ⟨#[]⟩, .str ⟨#[]⟩, .int _ _, .int _ _, .int _ _, .int _ _, .int _ _, .int _ _, .int _ _, .int _ _, .slnil, .int _ _, .int _ _, .int _ _, .str ⟨#[]⟩, .slnil, .int _ _, .slnil, .slnil, .int _ _, .slnil, .int _ _, .int _ _, .int _ _, .int _ _, trivial⟩⟩)) (
  Lf.AllOK.cons (Lf.TI.ok_mk (z := .nilFunc) (Lf.TK.ok_func (by kernel_rfl)) (by kernel_rfl) (fun _ => Lf.Rel.nilf)) (
  Lf.AllOK.cons (Lf.TI.ok_mk (z := .nilFunc) (Lf.TK.ok_func (by kernel_rfl)) (by kernel_rfl) (fun _ => Lf.Rel.nilf)) (
  Lf.AllOK.cons (Lf.TI.ok_mk (z := .slice none 0 0) ((by kernel_rfl : Try.prog.underlying 33 = _)) (by kernel_rfl) (fun _ => Lf.Rel.slnil)) (
  Lf.AllOK.cons (Lf.TI.ok_mk (z := .int .i64 0) ((by kernel_rfl : Try.prog.underlying 34 = _)) (by kernel_rfl) (fun _ => Lf.Rel.int _ _)) (
  Lf.AllOK.cons (Lf.TI.ok_mk (z := .nilFunc) (Lf.TK.ok_func (by kernel_rfl)) (by kernel_rfl) (fun _ => Lf.Rel.nilf)) (
  Lf.AllOK.cons (Lf.TI.ok_mk (z := .nilFunc) (Lf.TK.ok_func (by kernel_rfl)) (by kernel_rfl) (fun _ => Lf.Rel.nilf)) (
  Lf.AllOK.cons (Lf.TI.ok_mk (z := .nilFunc) (Lf.TK.ok_func (by kernel_rfl)) (by kernel_rfl) (fun _ => Lf.Rel.nilf)) (
  Lf.AllOK.cons (Lf.TI.ok_mk (z := .nilFunc) (Lf.TK.ok_func (by kernel_rfl)) (by kernel_rfl) (fun _ => Lf.Rel.nilf)) (
  Lf.AllOK.cons (Lf.TI.ok_mk (z := .nilFunc) (Lf.TK.ok_func (by kernel_rfl)) (by kernel_rfl) (fun _ => Lf.Rel.nilf)) (
  Lf.AllOK.cons (Lf.TI.ok_mk (z := .nilFunc) (Lf.TK.ok_func (by kernel_rfl)) (by kernel_rfl) (fun _ => Lf.Rel.nilf)) (
  Lf.AllOK.cons (Lf.TI.ok_mk (z := .agg #[.string ⟨#[]⟩, .int .i64 0, .int .i64 0, .int .i64 0, .string ⟨#[]⟩, .slice none 0 0]) (Lf.TK.ok_struct (by kernel_rfl)) (by kernel_rfl) (fun _ => ⟨_, rfl, ⟨.str ⟨#[]⟩, .int _ _, .int _ _, .int _ _, .str ⟨#[]⟩, .slnil, trivial⟩⟩)) (
  Lf.AllOK.cons (Lf.TI.ok_mk (z := .agg #[.string ⟨#[]⟩, .int .i64 0, .int .i64 0, .int .i64 0, .string ⟨#[]⟩, .slice none 0 0]) (Lf.TK.ok_struct (by kernel_rfl)) (by kernel_rfl) (fun _ => ⟨_, rfl, ⟨.str ⟨#[]⟩, .int _ _, .int _ _, .int _ _, .str ⟨#[]⟩, .slnil, trivial⟩⟩)) (
  Lf.AllOK.cons (Lf.TI.ok_mk (z := .agg #[.string ⟨#[]⟩, .int .i64 0, .int .i64 0, .int .i64 0, .string ⟨#[]⟩, .slice none 0 0, .int .i64 0]) (Lf.TK.ok_struct (by kernel_rfl)) (by kernel_rfl) (fun _ => ⟨_, rfl, ⟨.str ⟨#[]⟩, .int _ _, .int _ _, .int _ _, .str ⟨#[]⟩, .slnil, .int _ _, trivial⟩⟩)) (
  Lf.AllOK.cons (Lf.TI.ok_mk (z := .agg #[.string ⟨#[]⟩, .int .i64 0, .int .i64 0, .int .i64 0, .string ⟨#[]⟩, .slice none 0 0, .int .i64 0]) (Lf.TK.ok_struct (by kernel_rfl)) (by kernel_rfl) (fun _ => ⟨_, rfl, ⟨.str ⟨#[]⟩, .int _ _, .int _ _, .int _ _, .str ⟨#[]⟩, .slnil, .int _ _, trivial⟩⟩)) (
  Lf.AllOK.cons (Lf.TI.ok_mk (z := .nilFunc) (Lf.TK.ok_func (by kernel_rfl)) (by kernel_rfl) (fun _ => Lf.Rel.nilf)) (
  Lf.AllOK.cons (Lf.TI.ok_mk (z := .nilFunc) (Lf.TK.ok_func (by kernel_rfl)) (by kernel_rfl) (fun _ => Lf.Rel.nilf)) (
  Lf.AllOK.cons (Lf.TI.ok_mk (z := .nilFunc) (Lf.TK.ok_func (by kernel_rfl)) (by kernel_rfl) (fun _ => Lf.Rel.nilf)) (
  Lf.AllOK.cons (Lf.TI.ok_mk (z := .nilFunc) (Lf.TK.ok_func (by kernel_rfl)) (by kernel_rfl) (fun _ => Lf.Rel.nilf)) (
  Lf.AllOK.cons (Lf.TI.ok_mk (z := .nilFunc) (Lf.TK.ok_func (by kernel_rfl)) (by kernel_rfl) (fun _ => Lf.Rel.nilf)) (
  Lf.AllOK.cons (Lf.TI.ok_mk (z := .nilFunc) (Lf.TK.ok_func (by kernel_rfl)) (by kernel_rfl) (fun _ => Lf.Rel.nilf)) (
  Lf.AllOK.cons (Lf.TI.ok_mk (z := .nilFunc) (Lf.TK.ok_func (by kernel_rfl)) (by kernel_rfl) (fun _ => Lf.Rel.nilf)) (
  Lf.AllOK.cons (Lf.TI.ok_mk (z := .nilFunc) (Lf.TK.ok_func (by kernel_rfl)) (by kernel_rfl) (fun _ => Lf.Rel.nilf)) (
  Lf.AllOK.cons (Lf.TI.ok_mk (z := .nilFunc) (Lf.TK.ok_func (by kernel_rfl)) (by kernel_rfl) (fun _ => Lf.Rel.nilf)) (
  Lf.AllOK.cons (Lf.TI.ok_mk (z := .agg #[.slice none 0 0, .int .i64 0]) (Lf.TK.ok_struct (by kernel_rfl)) (by kernel_rfl) (fun _ => ⟨_, rfl, ⟨.slnil, .int _ _, trivial⟩⟩)) (
  Lf.AllOK.cons (Lf.TI.ok_mk (z := .agg #[.slice none 0 0, .int .i64 0]) (Lf.TK.ok_struct (by kernel_rfl)) (by kernel_rfl) (fun _ => ⟨_, rfl, ⟨.slnil, .int _ _, trivial⟩⟩)) (
  Lf.AllOK.cons (Lf.TI.ok_mk (z := .agg #[.slice none 0 0, .slice none 0 0]) (Lf.TK.ok_struct (by kernel_rfl)) (by kernel_rfl) (fun _ => ⟨_, rfl, ⟨.slnil, .slnil, trivial⟩⟩)) (
  Lf.AllOK.cons (Lf.TI.ok_mk (z := .agg #[.slice none 0 0, .slice none 0 0]) (Lf.TK.ok_struct (by kernel_rfl)) (by kernel_rfl) (fun _ => ⟨_, rfl, ⟨.slnil, .slnil, trivial⟩⟩)) (
  Lf.AllOK.cons (Lf.TI.ok_mk (z := .nilFunc) (Lf.TK.ok_func (by kernel_rfl)) (by kernel_rfl) (fun _ => Lf.Rel.nilf)) (
  Lf.AllOK.cons (Lf.TI.ok_mk (z := .nilFunc) (Lf.TK.ok_func (by kernel_rfl)) (by kernel_rfl) (fun _ => Lf.Rel.nilf)) (
  Lf.AllOK.cons (Lf.TI.ok_mk (z := .agg #[.int .i64 0, .slice none 0 0, .int .i64 0]) (Lf.TK.ok_struct (by kernel_rfl)) (by kernel_rfl) (fun _ => ⟨_, rfl, ⟨.int _ _, .slnil, .int _ _, trivial⟩⟩)) (
  Lf.AllOK.cons (Lf.TI.ok_mk (z := .agg #[.int .i64 0, .slice none 0 0, .int .i64 0]) (Lf.TK.ok_struct (by kernel_rfl)) (by kernel_rfl) (fun _ => ⟨_, rfl, ⟨.int _ _, .slnil, .int _ _, trivial⟩⟩)) (
  Lf.AllOK.cons (Lf.TI.ok_mk (z := .nilFunc) (Lf.TK.ok_func (by kernel_rfl)) (by kernel_rfl) (fun _ => Lf.Rel.nilf)) (
  Lf.AllOK.cons (Lf.TI.ok_mk (z := .nilFunc) (Lf.TK.ok_func (by kernel_rfl)) (by kernel_rfl) (fun _ => Lf.Rel.nilf)) (
  Lf.AllOK.cons (Lf.TI.ok_mk (z := .nilFunc) (Lf.TK.ok_func (by kernel_rfl)) (by kernel_rfl) (fun _ => Lf.Rel.nilf)) (
  Lf.AllOK.cons (Lf.TI.ok_mk (z := .nilFunc) (Lf.TK.ok_func (by kernel_rfl)) (by kernel_rfl) (fun _ => Lf.Rel.nilf)) (
  Lf.AllOK.cons (Lf.TI.ok_mk (z := .nilFunc) (Lf.TK.ok_func (by kernel_rfl)) (by kernel_rfl) (fun _ => Lf.Rel.nilf)) (
  Lf.AllOK.cons (Lf.TI.ok_mk (z := .nilFunc) (Lf.TK.ok_func (by kernel_rfl)) (by kernel_rfl) (fun _ => Lf.Rel.nilf)) (
  Lf.AllOK.cons (Lf.TI.ok_mk (z := .nilFunc) (Lf.TK.ok_func (by kernel_rfl)) (by kernel_rfl) (fun _ => Lf.Rel.nilf)) (
  Lf.AllOK.cons (Lf.TI.ok_mk (z := .nilFunc) (Lf.TK.ok_func (by kernel_rfl)) (by kernel_rfl) (fun _ => Lf.Rel.nilf)) (
  Lf.AllOK.cons (Lf.TI.ok_mk (z := .agg #[.int .i64 0, .int .i64 0]) (Lf.TK.ok_struct (by kernel_rfl)) (by kernel_rfl) (fun _ => ⟨_, rfl, ⟨.int _ _, .int _ _, trivial⟩⟩)) (
  Lf.AllOK.cons (Lf.TI.ok_mk (z := .agg #[.int .i64 0, .int .i64 0]) (Lf.TK.ok_struct (by kernel_rfl)) (by kernel_rfl) (fun _ => ⟨_, rfl, ⟨.int _ _, .int _ _, trivial⟩⟩)) (
  Lf.AllOK.cons (Lf.TI.ok_mk (z := .nilFunc) (Lf.TK.ok_func (by kernel_rfl)) (by kernel_rfl) (fun _ => Lf.Rel.nilf)) (
  Lf.AllOK.cons (Lf.TI.ok_mk (z := .nilFunc) (Lf.TK.ok_func (by kernel_rfl)) (by kernel_rfl) (fun _ => Lf.Rel.nilf)) (
  Lf.AllOK.cons (Lf.TI.ok_mk (z := .nilFunc) (Lf.TK.ok_func (by kernel_rfl)) (by kernel_rfl) (fun _ => Lf.Rel.nilf)) (
  Lf.AllOK.cons (Lf.TI.ok_mk (z := .nilFunc) (Lf.TK.ok_func (by kernel_rfl)) (by kernel_rfl) (fun _ => Lf.Rel.nilf)) (
  Lf.AllOK.cons (Lf.TI.ok_mk (z := .nilFunc) (Lf.TK.ok_func (by kernel_rfl)) (by kernel_rfl) (fun _ => Lf.Rel.nilf)) (
  Lf.AllOK.cons (Lf.TI.ok_mk (z := .nilFunc) (Lf.TK.ok_func (by kernel_rfl)) (by kernel_rfl) (fun _ => Lf.Rel.nilf)) (
  Lf.AllOK.cons (Lf.TI.ok_mk (z := .nilFunc) (Lf.TK.ok_func (by kernel_rfl)) (by kernel_rfl) (fun _ => Lf.Rel.nilf)) (
  Lf.AllOK.cons (Lf.TI.ok_mk (z := .nilFunc) (Lf.TK.ok_func (by kernel_rfl)) (by kernel_rfl) (fun _ => Lf.Rel.nilf)) (
  Lf.AllOK.cons (Lf.TI.ok_mk (z := .nilFunc) (Lf.TK.ok_func (by kernel_rfl)) (by kernel_rfl) (fun _ => Lf.Rel.nilf)) (
  Lf.AllOK.cons (Lf.TI.ok_mk (z := .nilFunc) (Lf.TK.ok_func (by kernel_rfl)) (by kernel_rfl) (fun _ => Lf.Rel.nilf)) (
  Lf.AllOK.cons (Lf.TI.ok_mk (z := .nilFunc) (Lf.TK.ok_func (by kernel_rfl)) (by kernel_rfl) (fun _ => Lf.Rel.nilf)) (
  Lf.AllOK.cons (Lf.TI.ok_mk (z := .nilFunc) (Lf.TK.ok_func (by kernel_rfl)) (by kernel_rfl) (fun _ => Lf.Rel.nilf)) (
  Lf.AllOK.cons (Lf.TI.ok_mk (z := .nilFunc) (Lf.TK.ok_func (by kernel_rfl)) (by kernel_rfl) (fun _ => Lf.Rel.nilf)) (
  Lf.AllOK.cons (Lf.TI.ok_mk (z := .nilFunc) (Lf.TK.ok_func (by kernel_rfl)) (by kernel_rfl) (fun _ => Lf.Rel.nilf)) (
  Lf.AllOK.cons (Lf.TI.ok_mk (z := .nilFunc) (Lf.TK.ok_func (by kernel_rfl)) (by kernel_rfl) (fun _ => Lf.Rel.nilf)) (
  Lf.AllOK.cons (Lf.TI.ok_mk (z := .nilFunc) (Lf.TK.ok_func (by kernel_rfl)) (by kernel_rfl) (fun _ => Lf.Rel.nilf)) (
  Lf.AllOK.cons (Lf.TI.ok_mk (z := .nilFunc) (Lf.TK.ok_func (by kernel_rfl)) (by kernel_rfl) (fun _ => Lf.Rel.nilf)) (
  Lf.AllOK.cons (Lf.TI.ok_mk (z := .nilFunc) (Lf.TK.ok_func (by kernel_rfl)) (by kernel_rfl) (fun _ => Lf.Rel.nilf)) (
  Lf.AllOK.cons (Lf.TI.ok_mk (z := .nilFunc) (Lf.TK.ok_func (by kernel_rfl)) (by kernel_rfl) (fun _ => Lf.Rel.nilf)) (
  Lf.AllOK.cons (Lf.TI.ok_mk (z := .nilFunc) (Lf.TK.ok_func (by kernel_rfl)) (by kernel_rfl) (fun _ => Lf.Rel.nilf)) (
  Lf.AllOK.cons (Lf.TI.ok_mk (z := .nilFunc) (Lf.TK.ok_func (by kernel_rfl)) (by kernel_rfl) (fun _ => Lf.Rel.nilf)) (
  Lf.AllOK.cons (Lf.TI.ok_mk (z := .nilFunc) (Lf.TK.ok_func (by kernel_rfl)) (by kernel_rfl) (fun _ => Lf.Rel.nilf)) (
  Lf.AllOK.cons (Lf.TI.ok_mk (z := .nilFunc) (Lf.TK.ok_func (by kernel_rfl)) (by kernel_rfl) (fun _ => Lf.Rel.nilf)) (
  Lf.AllOK.cons (Lf.TI.ok_mk (z := .nilFunc) (Lf.TK.ok_func (by kernel_rfl)) (by kernel_rfl) (fun _ => Lf.Rel.nilf)) (
  Lf.AllOK.cons (Lf.TI.ok_mk (z := .nilFunc) (Lf.TK.ok_func (by kernel_rfl)) (by kernel_rfl) (fun _ => Lf.Rel.nilf)) (
  Lf.AllOK.cons (Lf.TI.ok_mk (z := .agg #[.pointer none, .pointer none, .pointer none, .string ⟨#[]⟩]) (Lf.TK.ok_struct (by kernel_rfl)) (by kernel_rfl) (fun _ => ⟨_, rfl, ⟨.nilp, .nilp, .nilp, .str ⟨#[]⟩, trivial⟩⟩)) (
  Lf.AllOK.cons (Lf.TI.ok_mk (z := .agg #[.pointer none, .pointer none, .pointer none, .string ⟨#[]⟩]) (Lf.TK.ok_struct (by kernel_rfl)) (by kernel_rfl) (fun _ => ⟨_, rfl, ⟨.nilp, .nilp, .nilp, .str ⟨#[]⟩, trivial⟩⟩)) (
  Lf.AllOK.cons (Lf.TI.ok_mk (z := .nilFunc) (Lf.TK.ok_func (by kernel_rfl)) (by kernel_rfl) (fun _ => Lf.Rel.nilf)) (
  Lf.AllOK.cons (Lf.TI.ok_mk (z := .int .u32 0) ((by kernel_rfl : Try.prog.underlying 106 = _)) (by kernel_rfl) (fun _ => Lf.Rel.int _ _)) (
  Lf.AllOK.cons (Lf.TI.ok_mk (z := .int .u8 0) ((by kernel_rfl : Try.prog.underlying 107 = _)) (by kernel_rfl) (fun _ => Lf.Rel.int _ _)) (
  Lf.AllOK.cons (Lf.TI.ok_mk (z := .int .u8 0) ((by kernel_rfl : Try.prog.underlying 108 = _)) (by kernel_rfl) (fun _ => Lf.Rel.int _ _)) (
  Lf.AllOK.cons (Lf.TI.ok_mk (z := .nilFunc) (Lf.TK.ok_func (by kernel_rfl)) (by kernel_rfl) (fun _ => Lf.Rel.nilf)) (
  Lf.AllOK.cons (Lf.TI.ok_mk (z := .pointer none) ((by kernel_rfl : Try.prog.underlying 110 = _)) (by kernel_rfl) (fun _ => Lf.Rel.nilp)) (
  Lf.AllOK.cons (Lf.TI.ok_mk (z := .int .i32 0) ((by kernel_rfl : Try.prog.underlying 111 = _)) (by kernel_rfl) (fun _ => Lf.Rel.int _ _)) (
  Lf.AllOK.cons (Lf.TI.ok_mk (z := .int .i32 0) ((by kernel_rfl : Try.prog.underlying 112 = _)) (by kernel_rfl) (fun _ => Lf.Rel.int _ _)) (
  Lf.AllOK.cons (Lf.TI.ok_mk (z := .agg #[.int .u64 0, .int .u64 0, .int .u32 0, .int .u8 0, .int .u8 0, .int .u8 0, .int .u8 0, .nilFunc, .pointer none, .int .i32 0, .int .i32 0]) (Lf.TK.ok_struct (by kernel_rfl)) (by kernel_rfl) (fun _ => ⟨_, rfl, ⟨.int _ _, .int _ _, .int _ _, .int _ _, .int _ _, .int _ _, .int _ _, .nilf, .nilp, .int _ _, .int _ _, trivial⟩⟩)) (
  Lf.AllOK.cons (Lf.TI.ok_mk (z := .agg #[.int .u64 0, .int .u64 0, .int .u32 0, .int .u8 0, .int .u8 0, .int .u8 0, .int .u8 0, .nilFunc, .pointer none, .int .i32 0, .int .i32 0]) (Lf.TK.ok_struct (by kernel_rfl)) (by kernel_rfl) (fun _ => ⟨_, rfl, ⟨.int _ _, .int _ _, .int _ _, .int _ _, .int _ _, .int _ _, .int _ _, .nilf, .nilp, .int _ _, .int _ _, trivial⟩⟩)) (
  Lf.AllOK.nil)))))))))))))))))))))))))))))))))))))))))))))))))))))))))))))))))))))))))))))))))))))))))))))))))))))))))))))
theorem mixed : Try.prog.follows .mixedOrders = true := by kernel_rfl
end Go.Proofs.Ytppdbmobcfedcaa
end
section
set_option linter.unusedVariables false
set_option linter.unusedSimpArgs false
set_option linter.unusedSectionVars false
namespace Lf
open Go Go.RowKit
section
variable {P : Program} {G : Ghost} {n0 : Nat} {env : List (Nat × (Prop × AV))} {bl : List (Nat × Blk)} {p : Prop} {dst : Option Nat} {ty : TypeId} {pos : String} {after : Array Edge} {gd : Option (Nat × Bool)}
theorem run_bound {w : World} {k : IntKind} {n : Int} {m : Nat} {c : BoundsCode} (h : 0 ≤ n ∧ n ≤ m) : (Instr.sliceBound (.int k n) m c).run P w = .ok n.toNat w := by
  simp [Instr.sliceBound, asIntOf, h.1, h.2]
variable {T : TT} (hT : TOK P T)
include hT
end
end Lf
end
section
set_option linter.unusedVariables false
set_option linter.unusedSimpArgs false
set_option linter.unusedSectionVars false
namespace Lf
open Go Go.RowKit
inductive RV where
  | tmp (t : Nat)
  | cell (t ty : Nat)
def RV.var : RV → ResultVar
  | .tmp t => .tmp t
  | .cell t ty => .cell t ty
section
variable {P : Program} {G : Ghost} {A : St} {Φ : Frz} {β : Own} {a : Act} {w w' : World} {T : TT}
def ResM (T : TT) (A : St) : List RV → List PV → Prop
  | [], [] => True
  | .tmp t :: rs, q :: qs => (∃ av r, lk A.env t = some (True, av) ∧ toPV A.blks av = some r ∧ PSub r q) ∧ ResM T A rs qs
  | .cell t ty :: rs, q :: qs => (∃ ti m cs, T ty = some ti ∧ ti.kind.isAgg = some true ∧ lk A.env t = some (True, .addr m 0 0) ∧ lk A.blks m = some ⟨ty, ti.sz, [cs]⟩ ∧ PSub (.agg cs) q) ∧ ResM T A rs qs
  | _, _ => False
theorem ResM.nil : ResM T A [] [] := trivial
theorem ResM.cell {t ty m : Nat} {ti : TI} {rs : List RV} {q : PV} {cs : List Cell} {qs : List PV} (h1 : T ty = some ti) (h2 : ti.kind.isAgg = some true) (h : lk A.env t = some (True, .addr m 0 0)) (hv : lk A.blks m = some ⟨ty, ti.sz, [cs]⟩) (hs : PSub (.agg cs) q) (ht : ResM T A rs qs) : ResM T A (.cell t ty :: rs) (q :: qs) := ⟨⟨ti, m, cs, h1, h2, h, hv, hs⟩, ht⟩
def FinM (T : TT) (rs : List RV) (qs : List PV) (e : Exit) (A : St) : Prop := (e = .normal ∨ e = .ret) ∧ ResM T A rs qs
theorem FinM.ret {rs : List RV} {qs : List PV} (h : ResM T A rs qs) : FinM T rs qs .ret A := ⟨.inr rfl, h⟩
theorem run_cell (hT : TOK P T) (hs : Sat G Φ β A a w) {t ty m : Nat} {ti : TI} {cs : List Cell} (hty : T ty = some ti) (hag : ti.kind.isAgg = some true) (h1 : lk A.env t = some (True, .addr m 0 0)) (h2 : lk A.blks m = some ⟨ty, ti.sz, [cs]⟩) :
    ∃ v, (asAddr (a.tmps.getD t undef) >>= loadVar ty).run P w = .ok v w ∧ PRel Φ v (.agg cs) := by
  obtain ⟨b, cap, B, k1, k2, hob, k3⟩ := (hs.env t True _ h1).1 trivial
  rw [h2] at k2
  obtain rfl := Option.some.inj k2
  obtain ⟨cur, g1, g2, g3, g4, g5, g6⟩ := (hs.blk m _ b cap h2 k1).1.cells hob
  have hlen : cs.length = ti.sz := g5 cs (by simp)
  have hcell : ∀ j, j < ti.sz → w.cell? ⟨b, 0 + j, none⟩ = some ((cur[j]?).getD undef) := fun j hj => by
    obtain ⟨v, q1, q2⟩ := g6 0 j cs (cs[j]'(by omega)) rfl (List.getElem?_eq_getElem _)
    simp only [Nat.zero_mul, Nat.zero_add] at q1 ⊢
    rw [cell_of_row w b _ cur _ (0, 0) g1, q1]; rfl
  have hload := run_loadCells (P := P) w ⟨b, 0, none⟩ ti.sz (fun j => (cur[j]?).getD undef) (fun j hj => by rw [Addr.add_lit]; exact hcell j hj)
  refine ⟨.agg ((List.range ti.sz).map fun j => (cur[j]?).getD undef).toArray, ?_, _, rfl, ?_⟩
  · have e1 : a.tmps.getD t undef = .pointer (some ⟨b, 0, none⟩) := by rw [k3]; simp
    rw [e1]
    simp [asAddr, loadVar, run_isAgg hT hty hag, run_sizeOf hT hty, hload]
  · rw [← hlen]
    refine relL_range fun j c hj => ?_
    obtain ⟨v, q1, q2⟩ := g6 0 j cs c rfl hj
    simp only [Nat.zero_mul, Nat.zero_add] at q1
    rw [q1]; exact q2
theorem resm_run (hT : TOK P T) {f : ResultVar → Sem Value} (hs : Sat G Φ β A a w) (hf1 : ∀ t, f (.tmp t) = pure (a.tmps.getD t undef)) (hf2 : ∀ t ty, f (.cell t ty) = (asAddr (a.tmps.getD t undef) >>= loadVar ty)) :
    ∀ {rs : List RV} {qs : List PV}, ResM T A rs qs → ∃ vs : List Value, ((rs.map RV.var).mapM f).run P w = .ok vs w ∧ vs.length = qs.length ∧ ∀ (j : Nat) (q : PV), qs[j]? = some q → ∃ v, vs[j]? = some v ∧ PRel (frzAll Φ β A.blks w) v q
  | [], [], _ => ⟨[], rfl, rfl, fun j q h => by simp at h⟩
  | .tmp t :: rs, q0 :: qs, ⟨⟨av, r, h1, h2, h3⟩, h⟩ => by
    obtain ⟨vs, e1, e2, e3⟩ := resm_run hT hs hf1 hf2 h
    refine ⟨a.tmps.getD t undef :: vs, ?_, by simp [e2], fun j q hq => ?_⟩
    · simp only [List.map_cons, List.mapM_cons, RV.var, hf1, pure_bind, Sem.run_bind, e1]
      rfl
    · cases j with
      | zero => simp at hq; subst hq; exact ⟨_, rfl, (hs.toPV ((hs.env t True av h1).1 trivial) h2).sub h3⟩
      | succ j => simpa using e3 j q (by simpa using hq)
  | .cell t ty :: rs, q0 :: qs, ⟨⟨ti, m, cs, h1, h2, h3, h4, h5⟩, h⟩ => by
    obtain ⟨vs, e1, e2, e3⟩ := resm_run hT hs hf1 hf2 h
    obtain ⟨v, k1, k2⟩ := run_cell hT hs h1 h2 h3 h4
    refine ⟨v :: vs, ?_, by simp [e2], fun j q hq => ?_⟩
    · rw [List.map_cons, List.mapM_cons, RV.var, hf2, Sem.run_bind, k1]
      simp only [Result.andThen, Sem.run_bind, e1]
      rfl
    · cases j with
      | zero => simp at hq; subst hq; exact ⟨_, rfl, (k2.mono hs.frz_le).sub h5⟩
      | succ j => simpa using e3 j q (by simpa using hq)
/-- The call, out of the walk of its body. -/
theorem calls_mix (hT : TOK P T) {f : FuncId} {fn : Func} {c : Code} {args qs : List PV} (rs : List RV) (hf : P.funcs[f]? = some fn) (hb : fn.body = some c)
    (hr : fn.results = (rs.map RV.var).toArray) {Φ : Frz} {w : World} {vs : Array Value} (hfit : Fits Φ w) (harg : ArgsRel Φ vs args)
    (h : W P { w0 := w, K := fun b => b < w.heap.size, F0 := Φ, lt := fun b h => h } c (FinM T rs qs) (St.init fn.ntmps args)) :
    Calls P f vs w (fun e w' => ∃ v Φ', e = .returned v ∧ AVRel Φ' (fun _ => none) [] v (ofRes qs) ∧ Φ.le Φ' ∧ (∀ b, b < w.heap.size → Φ' b = Φ b) ∧ Fits Φ' w' ∧ Below w.heap.size w w') := by
  refine calls_of_wp hf hb (wp_mono (h Φ (fun _ => none) _ w (sat_init (f := f) rfl hfit harg)) fun e a' w' ⟨A', Φ', β', ⟨he, hres⟩, hs, hle⟩ => ?_)
  have hv : a'.defers = [] ∧ ∃ v, (results fn a'.tmps).run P w' = .ok v w' ∧ (∃ v1 Φ'', Ending.returned v = .returned v1 ∧ AVRel Φ'' (fun _ => none) [] v1 (ofRes qs) ∧ Φ.le Φ'' ∧ (∀ b, b < w.heap.size → Φ'' b = Φ b) ∧ Fits Φ'' w' ∧ Below w.heap.size w w') := by
    obtain ⟨vl, e1, e2, e3⟩ := resm_run hT hs (f := fun
      | .tmp t => pure (a'.tmps.getD t undef)
      | .cell t ty => do loadVar ty (← asAddr (a'.tmps.getD t undef))) (fun t => rfl) (fun t ty => rfl) hres
    have hrest : Φ.le (frzAll Φ' β' A'.blks w') ∧ (∀ b, b < w.heap.size → frzAll Φ' β' A'.blks w' b = Φ b) ∧ Fits (frzAll Φ' β' A'.blks w') w' ∧ Below w.heap.size w w' := by
      refine ⟨Frz.le_trans hle hs.frz_le, fun b hb => ?_, hs.frz_fits, ⟨hs.kept.os, hs.kept.tape, hs.kept.output, hs.kept.size, hs.kept.block⟩⟩
      have hno : ¬ ownedBy β' A'.blks b := fun ⟨n, B, cap, h1, h2⟩ => (hs.blk n B b cap h1 h2).2.1 hb
      unfold frzAll
      rw [if_neg hno]
      exact hs.old b hb
    refine ⟨hs.dfr, ?_⟩
    match vl, qs, e1, e2, e3 with
    | [], [], e1, _, e3 =>
      refine ⟨.tuple #[], ?_, _, _, rfl, ⟨#[], rfl, rfl, fun j p h => by simp at h⟩, hrest⟩
      unfold results; rw [hr, List.mapM_toArray, bind_map_left, Sem.run_bind]; erw [e1]; rfl
    | [v], [q], e1, _, e3 =>
      obtain ⟨v', h1, h2⟩ := e3 0 q rfl
      simp at h1; subst h1
      refine ⟨v, ?_, _, _, rfl, h2, hrest⟩
      unfold results; rw [hr, List.mapM_toArray, bind_map_left, Sem.run_bind]; erw [e1]; rfl
    | v :: v2 :: vs', q :: q2 :: qs', e1, e2, e3 =>
      refine ⟨.tuple (v :: v2 :: vs').toArray, ?_, _, _, rfl, ⟨_, rfl, by simpa using e2, fun j p hp => ?_⟩, hrest⟩
      · unfold results; rw [hr, List.mapM_toArray, bind_map_left, Sem.run_bind]; erw [e1]; rfl
      · obtain ⟨v', h1, h2⟩ := e3 j p hp
        exact ⟨v', by simpa using h1, h2⟩
  rcases he with rfl | rfl
  · exact hv
  · exact hv
theorem ACalls.of_M (hT : TOK P T) {f : FuncId} {fn : Func} {c : Code} {args qs : List PV} (rs : List RV) (n : Nat) (hf : P.funcs[f]? = some fn) (hn : (fn.name == "runtime.NumGoroutine") = false) (hb : fn.body = some c)
    (hr : fn.results = (rs.map RV.var).toArray) (hnt : fn.ntmps = n) (h : ∀ G, W P G c (FinM T rs qs) (St.init n args)) : ACalls P f args (ofRes qs) where
  fn := ⟨fn, hf, hn, by rw [hb]; rfl⟩
  calls := fun Φ w vs hfit harg => by subst hnt; exact calls_mix hT rs hf hb hr hfit harg (h _)
end
end Lf
end
section
set_option linter.unusedVariables false
set_option linter.unusedSimpArgs false
set_option linter.unusedSectionVars false
namespace Lf
open Go Go.RowKit
section
variable {P : Program} {G : Ghost} {A : St} {Φ : Frz} {β : Own} {a : Act} {w w' : World}
/-- all own blocks but m become memory that does not turn any more -/
def dropB (m : Nat) (bl : List (Nat × Blk)) : List (Nat × Blk) := bl.filter fun x => !Nat.beq x.1 m
theorem lk_dropB (m : Nat) : ∀ (bl : List (Nat × Blk)) (k : Nat), lk (dropB m bl) k = if k = m then none else lk bl k
  | [], k => by simp [dropB, lk]
  | (t, B) :: r, k => by
    have ih := lk_dropB m r k
    simp only [dropB, List.filter_cons] at ih ⊢
    cases hb : Nat.beq t m with
    | true =>
      have e : t = m := Nat.eq_of_beq_eq_true hb
      simp only [Bool.not_true, Bool.false_eq_true, if_false]
      rw [ih, lk_cons]
      by_cases h : k = m
      · simp [h]
      · rw [if_neg h, if_neg h, if_neg (by omega)]
    | false =>
      have e : t ≠ m := fun e => by subst e; simp at hb
      simp only [Bool.not_false, if_true]
      rw [lk_cons, lk_cons, ih]
      by_cases h : t = k
      · rw [if_pos h, if_pos h, if_neg (by omega)]
      · rw [if_neg h, if_neg h]
def frzVX (m : Nat) (bl : List (Nat × Blk)) : AV → AV
  | .itr d n => .top
  | .mp n => .top
  | v => bif v.ment m then v else frzV bl v
def frzX (m : Nat) (bl : List (Nat × Blk)) : List (Nat × (Prop × AV)) → List (Nat × (Prop × AV))
  | [] => []
  | (t, (q, v)) :: r => (t, (q, frzVX m bl v)) :: frzX m bl r
theorem lk_frzX (m : Nat) (bl : List (Nat × Blk)) : ∀ (env : List (Nat × (Prop × AV))) (t : Nat) (q : Prop) (v : AV), lk (frzX m bl env) t = some (q, v) → ∃ v', lk env t = some (q, v') ∧ v = frzVX m bl v'
  | [], t, q, v, h => by simp [frzX, lk] at h
  | (s, (q0, v0)) :: r, t, q, v, h => by
    rw [frzX, lk_cons] at h
    rw [lk_cons]
    split at h
    · rename_i e
      simp only [Option.some.injEq, Prod.mk.injEq] at h
      rw [if_pos e]
      exact ⟨v0, by rw [h.1], h.2.symm⟩
    · rename_i e
      rw [if_neg e]
      exact lk_frzX m bl r t q v h
theorem toPV_drop {m : Nat} {bl : List (Nat × Blk)} {v : AV} (h : v.ment m = false) : toPV (dropB m bl) v = toPV bl v := by
  cases v with
  | slc n =>
    have e : n ≠ m := fun e => by subst e; simp [AV.ment] at h
    simp only [toPV, lk_dropB, if_neg e]
  | addr n i off =>
    have e : n ≠ m := fun e => by subst e; simp [AV.ment] at h
    simp only [toPV, lk_dropB, if_neg e]
  | _ => rfl
theorem AVRel.drop {m : Nat} {v : Value} {x : AV} (h : AVRel Φ β A.blks v x) (hm : x.ment m = false) : AVRel Φ β (dropB m A.blks) v x := by
  have hl : ∀ k, k ≠ m → lk (dropB m A.blks) k = lk A.blks k := fun k hk => by rw [lk_dropB, if_neg hk]
  cases x with
  | pv p => exact h
  | tup l => exact h
  | top => trivial
  | addr n i off =>
    have e : n ≠ m := fun e => by subst e; simp [AV.ment] at hm
    obtain ⟨b', cap', B', g1, g2, g3⟩ := h
    exact ⟨b', cap', B', g1, by rw [hl n e]; exact g2, g3⟩
  | slc n =>
    have e : n ≠ m := fun e => by subst e; simp [AV.ment] at hm
    obtain ⟨B', g2, g3⟩ := h
    exact ⟨B', by rw [hl n e]; exact g2, g3⟩
  | pin n b c f =>
    have e : n ≠ m := fun e => by subst e; simp [AV.ment] at hm
    obtain ⟨B', g1, g2, g3⟩ := h
    exact ⟨B', g1, by rw [hl n e]; exact g2, g3⟩
  | mp n =>
    have e : n ≠ m := fun e => by subst e; simp [AV.ment] at hm
    obtain ⟨b', cap', B', g1, g2, g3⟩ := h
    exact ⟨b', cap', B', g1, by rw [hl n e]; exact g2, g3⟩
  | mpn n bb =>
    have e : n ≠ m := fun e => by subst e; simp [AV.ment] at hm
    obtain ⟨b', cap', B', g1, g2, g3⟩ := h
    exact ⟨b', cap', B', g1, by rw [hl n e]; exact g2, g3⟩
  | itr d n =>
    have e : n ≠ m := fun e => by subst e; simp [AV.ment] at hm
    have e' : d ≠ m := fun e => by subst e; simp [AV.ment] at hm
    obtain ⟨b', cap', B', M, c, g1, g2, g3, g4, g5, g6⟩ := h
    exact ⟨b', cap', B', M, c, g1, by rw [hl d e']; exact g2, g3, g4, by rw [hl n e]; exact g5, g6⟩
theorem freezeX_sat {m : Nat} {B : Blk} (hm : lk A.blks m = some B) (hs : Sat G Φ β A a w) : ∃ Φ' β', Φ.le Φ' ∧ Sat G Φ' β' { A with env := frzX m A.blks A.env, blks := [(m, B)] } a w ∧ β' m = β m ∧
    ∀ (v : Value) (n : Nat) (C : Blk) (q : PV), lk A.blks n = some C → n ≠ m → AVRel Φ β A.blks v (.slc n) → toPV A.blks (.slc n) = some q → PRel Φ' v q := by
  have hs1 : Sat G Φ β ⟨A.n, [], dropB m A.blks⟩ a w := by
    refine ⟨hs.kept, hs.fits, hs.old, hs.siz, hs.dfr, fun t q v h => by simp [lk] at h, fun n C b cap h1 h2 => ?_, fun n C h1 h2 => ?_, fun n n' C C' b c c' h1 h2 h3 h4 => ?_⟩
    · simp only [lk_dropB] at h1; split at h1
      · cases h1
      · exact hs.blk n C b cap h1 h2
    · simp only [lk_dropB] at h1; split at h1
      · cases h1
      · exact hs.vir n C h1 h2
    · simp only [lk_dropB] at h1 h2; split at h1
      · cases h1
      · split at h2
        · cases h2
        · exact hs.inj n n' C C' b c c' h1 h2 h3 h4
  have hno : ∀ b cap, β m = some (b, cap) → ¬ ownedBy β (dropB m A.blks) b := fun b cap h1 ⟨n, C, c', k1, k2⟩ => by
    rw [lk_dropB] at k1; split at k1
    · cases k1
    · rename_i e; exact e (hs.inj n m C B b c' cap k1 hm k2 h1)
  have hs1' : Sat G Φ β ⟨A.n, [], dropB m A.blks⟩ a w := hs1
  refine ⟨frzAll Φ β (dropB m A.blks) w, fun k => if k = m then β m else none, hs1.frz_le, ⟨hs.kept, hs1.frz_fits, fun b hk => ?_, hs.siz, hs.dfr, fun t q v h => ?_, fun n C b cap h1 h2 => ?_, fun n C h1 h2 => ?_, fun n n' C C' b c c' h1 h2 h3 h4 => ?_⟩, by simp, fun v n C q k1 k2 k3 k4 => ?_⟩
  · have hn : ¬ ownedBy β (dropB m A.blks) b := fun ⟨n, C, cap, h1, h2⟩ => (hs1.blk n C b cap h1 h2).2.1 hk
    unfold frzAll
    rw [if_neg hn]
    exact hs.old b hk
  · obtain ⟨v', h1, rfl⟩ := lk_frzX _ _ _ _ _ _ h
    refine ⟨fun hq => ?_, (hs.env t q v' h1).2⟩
    have h3 := (hs.env t q v' h1).1 hq
    have frz : v'.ment m = false → AVRel (frzAll Φ β (dropB m A.blks) w) (fun k => if k = m then β m else none) [(m, B)] (a.tmps.getD t undef) (frzV A.blks v') := fun hmt => by
      have h5 := h3.drop hmt
      have e : frzV A.blks v' = frzV (dropB m A.blks) v' := by
        cases v' <;> simp only [frzV, toPV_drop hmt]
      rw [e]
      cases v' with
      | tup l => exact h3.mono hs1.frz_le
      | pv p => exact PRel.mono hs1.frz_le h3
      | top => trivial
      | mp n => trivial
      | mpn n bb => trivial
      | itr d n => trivial
      | pin n b c f => trivial
      | addr n i off =>
        simp only [frzV]
        cases hq' : toPV (dropB m A.blks) (.addr n i off) with
        | none => trivial
        | some p => exact hs1.toPV h5 hq'
      | slc n =>
        simp only [frzV]
        cases hq' : toPV (dropB m A.blks) (.slc n) with
        | none => trivial
        | some p => exact hs1.toPV h5 hq'
    cases v' with
    | mp n => trivial
    | mpn n bb =>
      simp only [frzVX]
      cases hmt : (AV.mpn n bb).ment m with
      | false => exact frz hmt
      | true =>
        have e : n = m := Nat.eq_of_beq_eq_true hmt
        subst e
        obtain ⟨b', cap', B', g1, g2, g3⟩ := h3
        rw [hm] at g2; obtain rfl := Option.some.inj g2
        exact ⟨b', cap', B, by simp [g1], by rw [lk_cons, if_pos rfl], g3⟩
    | itr d n => trivial
    | tup l => exact frz rfl
    | pv p => exact frz rfl
    | top => exact frz rfl
    | addr n i off =>
      simp only [frzVX]
      cases hmt : (AV.addr n i off).ment m with
      | false => exact frz hmt
      | true =>
        have e : n = m := Nat.eq_of_beq_eq_true hmt
        subst e
        obtain ⟨b', cap', B', g1, g2, g3⟩ := h3
        rw [hm] at g2; obtain rfl := Option.some.inj g2
        exact ⟨b', cap', B, by simp [g1], by rw [lk_cons, if_pos rfl], g3⟩
    | slc n =>
      simp only [frzVX]
      cases hmt : (AV.slc n).ment m with
      | false => exact frz hmt
      | true =>
        have e : n = m := Nat.eq_of_beq_eq_true hmt
        subst e
        obtain ⟨B', g2, g3⟩ := h3
        rw [hm] at g2; obtain rfl := Option.some.inj g2
        exact ⟨B, by rw [lk_cons, if_pos rfl], by simpa using g3⟩
    | pin n b c f =>
      simp only [frzVX]
      cases hmt : (AV.pin n b c f).ment m with
      | false => exact frz hmt
      | true =>
        have e : n = m := Nat.eq_of_beq_eq_true hmt
        subst e
        obtain ⟨B', g1, g2, g3⟩ := h3
        rw [hm] at g2; obtain rfl := Option.some.inj g2
        exact ⟨B, by simp [g1], by rw [lk_cons, if_pos rfl], g3⟩
  · rw [lk_cons] at h1
    split at h1
    · rename_i e; subst e
      obtain rfl := Option.some.inj h1
      simp only [if_true] at h2
      obtain ⟨k1, k2, k3⟩ := hs.blk m B b cap hm h2
      refine ⟨k1.keep hs1.frz_le rfl, k2, ?_⟩
      unfold frzAll
      rw [if_neg (hno b cap h2)]
      exact k3
    · simp [lk] at h1
  · rw [lk_cons] at h1
    split at h1
    · rename_i e; subst e
      obtain rfl := Option.some.inj h1
      simp only [if_true] at h2
      exact hs.vir m B hm h2
    · simp [lk] at h1
  · rw [lk_cons] at h1 h2
    split at h1
    · rename_i e; split at h2
      · rename_i e'; rw [← e, ← e']
      · simp [lk] at h2
    · simp [lk] at h1
  · have hmt : (AV.slc n).ment m = false := by
      cases hb : (AV.slc n).ment m with
      | false => rfl
      | true => exact absurd (Nat.eq_of_beq_eq_true hb) k2
    exact hs1'.toPV (k3.drop hmt) (by rw [toPV_drop hmt]; exact k4)
/-- an own block is lent, and turned -/
theorem AVRel.turn {n : Nat} {B : Blk} {rows : List (List Cell)} (h1 : lk A.blks n = some B) (hob : B.ob = false) (hlen : rows.length = B.rows.length) {v : Value} {x : AV} (h : AVRel Φ β A.blks v x) : AVRel Φ β ((n, { B with rows := rows }) :: A.blks) v x := by
  have hl : ∀ m, m ≠ n → lk ((n, { B with rows := rows }) :: A.blks) m = lk A.blks m := fun m hm => by rw [lk_cons, if_neg (Ne.symm hm)]
  cases x with
  | pv p => exact h
  | tup l => exact h
  | top => trivial
  | addr m i off =>
    obtain ⟨b', cap', B', k1, k2, k3⟩ := h
    by_cases e : m = n
    · subst e
      obtain rfl : B = B' := by rw [h1] at k2; exact Option.some.inj k2
      exact ⟨b', cap', { B with rows := rows }, k1, by rw [lk_cons, if_pos rfl], k3⟩
    · exact ⟨b', cap', B', k1, by rw [hl m e]; exact k2, k3⟩
  | pin m b0 c0 f =>
    obtain ⟨B', k1, k2, k3⟩ := h
    by_cases e : m = n
    · subst e
      obtain rfl : B = B' := by rw [h1] at k2; exact Option.some.inj k2
      exact ⟨{ B with rows := rows }, k1, by rw [lk_cons, if_pos rfl], k3.1, by simp only [hlen]; exact k3.2⟩
    · exact ⟨B', k1, by rw [hl m e]; exact k2, k3⟩
  | slc m =>
    obtain ⟨B', k1, k2⟩ := h
    by_cases e : m = n
    · subst e
      obtain rfl : B = B' := by rw [h1] at k1; exact Option.some.inj k1
      refine ⟨{ B with rows := rows }, by rw [lk_cons, if_pos rfl], k2.1, ?_⟩
      simp only [hlen]; exact k2.2
    · exact ⟨B', by rw [hl m e]; exact k1, k2⟩
  | mp m =>
    obtain ⟨b', cap', B', k1, k2, k3, k4⟩ := h
    have e : m ≠ n := fun e => by
      subst e; rw [h1] at k2; obtain rfl := Option.some.inj k2; rw [ob_map k3] at hob; cases hob
    exact ⟨b', cap', B', k1, by rw [hl m e]; exact k2, k3, k4⟩
  | mpn m bb =>
    obtain ⟨b', cap', B', k1, k2, k3, k4⟩ := h
    have e : m ≠ n := fun e => by
      subst e; rw [h1] at k2; obtain rfl := Option.some.inj k2; rw [ob_map k3] at hob; cases hob
    exact ⟨b', cap', B', k1, by rw [hl m e]; exact k2, k3, k4⟩
  | itr d m =>
    obtain ⟨b', cap', B', M, c, k1, k2, k3, k4, k5, k6, k7⟩ := h
    have e : m ≠ n := fun e => by
      subst e; rw [h1] at k5; obtain rfl := Option.some.inj k5; rw [ob_map k6] at hob; cases hob
    have e' : d ≠ n := fun e => by
      subst e; rw [h1] at k2; obtain rfl := Option.some.inj k2; rw [ob_iter k3] at hob; cases hob
    exact ⟨b', cap', B', M, c, k1, by rw [hl d e']; exact k2, k3, k4, by rw [hl m e]; exact k5, k6, k7⟩
end
section
variable {P : Program} {G : Ghost} {ops : Array Oper} {rest : List Oper} {Q : St → Prop} {n0 : Nat} {env : List (Nat × (Prop × AV))} {bl : List (Nat × Blk)} {p : Prop} {dst : Option Nat} {ty : TypeId} {pos : String} {after : Array Edge} {gd : Option (Nat × Bool)}
end
end Lf
end
section
set_option linter.unusedVariables false
set_option linter.unusedSimpArgs false
set_option linter.unusedSectionVars false
namespace Lf
open Go Go.RowKit
def slcV (b c : Nat) : Nat → Value := fun len => .slice (some ⟨b, 0, none⟩) len c
section
variable {P : Program} {G : Ghost} {A B : St} {Φ : Frz} {β : Own} {a : Act} {w w' : World}
theorem W.fin {c : Code} {Q : Exit → St → Prop} (h : W P G c (fun e A => ∃ B, Le A B ∧ Q e B) A) : W P G c Q A := fun Φ β a w hs =>
  wp_mono (h Φ β a w hs) fun e a' w' ⟨A', Φ', β', ⟨B, hl, q⟩, s, l⟩ => by
    obtain ⟨Φ1, β1, l1, s1⟩ := hl G Φ' β' a' w' s
    exact ⟨B, Φ1, β1, q, s1, Frz.le_trans l l1⟩
/-- the place of an own slice -/
theorem Sat.place {t n : Nat} {C : Blk} (hs : Sat G Φ β A a w) (ht : lk A.env t = some (True, .slc n)) (hl : lk A.blks n = some C) :
    (∃ b c, Sat G Φ β (A.set t True (.pin n b c (slcV b c))) a w) ∨ (C.rows = [] ∧ Sat G Φ β (A.set t True (.pv (.one .slnil))) a w) := by
  obtain ⟨C', h1, h2, h3⟩ := (hs.env t True _ ht).1 trivial
  rw [hl] at h1
  obtain rfl := Option.some.inj h1
  have mk : ∀ v, AVRel Φ β A.blks (a.tmps.getD t undef) v → Sat G Φ β (A.set t True v) a w := fun v hv => by
    refine ⟨hs.kept, hs.fits, hs.old, hs.siz, hs.dfr, fun s q v' h => ?_, hs.blk, hs.vir, hs.inj⟩
    simp only [St.set] at h
    rw [lk_cons] at h
    split at h
    · rename_i e; subst e
      simp only [Option.some.injEq, Prod.mk.injEq] at h
      obtain ⟨rfl, rfl⟩ := h
      exact ⟨fun _ => hv, fun hq => (hq trivial).elim⟩
    · exact hs.env s q v' h
  rcases h3 with ⟨h3, h4⟩ | ⟨b, c, h3, h4⟩
  · exact .inr ⟨hs.vir n C hl h3, mk _ (by rw [h4]; exact Rel.slnil)⟩
  · exact .inl ⟨b, c, mk _ ⟨C, h3, hl, h2, h4⟩⟩
theorem PureOp.conv {o : Oper} {p : Prop} {v v' : AV} (h : PureOp P G A o p v) (hc : ∀ Φ β a w, Sat G Φ β A a w → ∀ Φ' u, AVRel Φ' β A.blks u v → AVRel Φ' β A.blks u v') : PureOp P G A o p v' := fun Φ β a w hs hp =>
  Oper.wp_mono' (h Φ β a w hs hp) (fun a' w' ⟨u, Φ', h1, h2, h3⟩ => ⟨u, Φ', h1, hc Φ β a w hs Φ' u h2, h3⟩) (fun _ _ _ h => h)
theorem rel_sla {b len c : Nat} {v : Value} (h : Rel Φ v (.sla b len c)) : v = .slice (some ⟨b, 0, none⟩) len c := by cases h; rfl
end
section
variable {P : Program} {G : Ghost} {ops : Array Oper} {rest : List Oper} {Q : St → Prop} {n0 : Nat} {env : List (Nat × (Prop × AV))} {bl : List (Nat × Blk)} {p : Prop} {dst : Option Nat} {ty : TypeId} {pos : String} {after : Array Edge} {gd : Option (Nat × Bool)}
/-- the second part was not reckoned -/
theorem Q_andF {c x : Operand} {b : Bool} (hc : Ev (St.mk n0 env bl) p c (.pv (.one (.bool b)))) (hb : b = false) :
    PureOp P G (St.mk n0 env bl) ⟨dst, .pick c x (.const (.bool false)), ty, pos, after, gd⟩ p (.pv (.one (.bool false))) := PureOp.val fun Φ β a w hs hp => by
  have h1 := AVRel.bool (hs.ev hc hp)
  subst hb
  exact ⟨.bool false, by simp [execOp, h1, asBool]; rfl, Rel.bool _⟩
theorem Q_orT {c x : Operand} {b : Bool} (hc : Ev (St.mk n0 env bl) p c (.pv (.one (.bool b)))) (hb : b = true) :
    PureOp P G (St.mk n0 env bl) ⟨dst, .pick c (.const (.bool true)) x, ty, pos, after, gd⟩ p (.pv (.one (.bool true))) := PureOp.val fun Φ β a w hs hp => by
  have h1 := AVRel.bool (hs.ev hc hp)
  subst hb
  exact ⟨.bool true, by simp [execOp, h1, asBool]; rfl, Rel.bool _⟩
variable {T : TT} (hT : TOK P T)
include hT
/-- an own slice out of an own struct -/
theorem Q_loadO {tt t n n2 i off b len c : Nat} {x : Operand} {ti : TI} {B C : Blk} {r : List Cell} {f : Nat → Value} (hpin : lk env tt = some (True, .pin n2 b c f)) (hf : f = slcV b c) (hC : lk bl n2 = some C) (hCo : C.ob = false) (ht : T t = some ti) (hb : ti.kind.isAgg = some false) (hx : Ev (St.mk n0 env bl) p x (.addr n i off))
    (hl : lk bl n = some B) (hr : B.rows[i]? = some r) (hc : r[off]? = some (.sla b len c)) (hlen : C.rows.length = len) : PureOp P G (St.mk n0 env bl) ⟨dst, .load t x, ty, pos, after, gd⟩ p (.slc n2) :=
  PureOp.conv (Q_load hT ht hb hx hl hr hc) fun Φ β a w hs Φ' u h => by
    obtain ⟨D, h1, h2, h3, _⟩ := (hs.env tt True _ hpin).1 trivial
    exact ⟨C, hC, hCo, .inr ⟨b, c, h1, by rw [hlen]; exact rel_sla h⟩⟩
/-- an own slice into an own struct -/
theorem S_storeO {t n n2 i off b c : Nat} {x : Operand} {ty' : Nat} {ti : TI} {B C : Blk} {r : List Cell} {f : Nat → Value} (hx : Ev (St.mk n0 env bl) True x (.addr n i off)) (hpin : lk env ty' = some (True, .pin n2 b c f)) (hf : f = slcV b c) (hC : lk bl n2 = some C) (ht : T t = some ti) (hz : ti.sz = 1)
    (hl : lk bl n = some B) (hr : B.rows[i]? = some r) (hfit : off + 1 ≤ r.length)
    (h : RG P G ops rest Q (St.mk n0 env ((n, { B with rows := B.rows.set i (splice r off [.sla b C.rows.length c]) }) :: bl))) : RG P G ops (⟨none, .store t x (.tmp ty'), ty, pos, after, none⟩ :: rest) Q (St.mk n0 env bl) :=
  RG.eff rfl (E_storeG hT (q := .one (.sla b C.rows.length c)) rfl rfl ht hx (fun Φ β a w hs => by
    obtain ⟨D, h1, h2, h3, h4⟩ := (hs.env ty' True _ hpin).1 trivial
    have h2' : lk bl n2 = some D := h2
    rw [hC] at h2'
    obtain rfl := Option.some.inj h2'
    show Rel Φ (a.tmps.getD ty' undef) _
    rw [h4, hf]
    exact Rel.sla b _ c) hl hr (by rw [hz]; rfl) (by rw [hz]; exact hfit)) h
omit hT in
/-- a slice of data, cut -/
theorem rel_cut {Φ : Frz} {v : Value} {rows : List (List Cell)} {sz lo hi : Nat} (h : Rel Φ v (.sl rows)) (hrows : ∀ r ∈ rows, r.length = sz) (h1 : lo ≤ hi) (h2 : hi ≤ rows.length) :
    ∃ a len cap, v = .slice a len cap ∧ len = rows.length ∧ len ≤ cap ∧ Rel Φ (.slice (if cap = lo then a else a.map (·.add (lo * sz))) (hi - lo) (cap - lo)) (.sl ((rows.drop lo).take (hi - lo))) := by
  cases h with
  | sl0 =>
    simp at h2
    refine ⟨none, 0, 0, rfl, rfl, Nat.le_refl _, ?_⟩
    have e1 : lo = 0 := by omega
    have e2 : hi = 0 := by omega
    subst e1; subst e2
    exact .sl0
  | slE a cap =>
    simp at h2
    refine ⟨some a, 0, cap, rfl, rfl, Nat.zero_le _, ?_⟩
    have e1 : lo = 0 := by omega
    have e2 : hi = 0 := by omega
    subst e1; subst e2
    simp only [List.drop_zero, Nat.sub_zero, List.take_zero]
    split
    · exact .slE a cap
    · exact .slE _ cap
  | sl b off len cap sz' _ f hlen hcap hsz hc hr =>
    refine ⟨some ⟨b, off, none⟩, len, cap, rfl, hlen.symm, hcap, ?_⟩
    by_cases e : lo = hi
    · subst e
      simp only [Nat.sub_self, List.take_zero]
      split
      · rename_i e2; exact .slE _ _
      · exact .slE _ _
    · have hne : cap ≠ lo := by rw [← hlen] at hcap; omega
      have hlt : hi - lo ≤ cap - lo := by rw [← hlen] at hcap; omega
      rw [if_neg hne]
      have hz : sz' = sz := by
        cases rows with
        | nil => simp at h2; omega
        | cons r rs => rw [← hsz r (by simp), hrows r (by simp)]
      subst hz
      have hget : ∀ (i : Nat) (r : List Cell), ((rows.drop lo).take (hi - lo))[i]? = some r → rows[lo + i]? = some r := fun i r h => by
        simp only [List.getElem?_take, List.getElem?_drop] at h
        split at h
        · exact h
        · cases h
      simp only [Option.map_some, Addr.add_lit]
      refine .sl b (off + lo * sz') (hi - lo) (cap - lo) sz' ((rows.drop lo).take (hi - lo)) (fun i j => f (lo + i) j) (by rw [List.length_take, List.length_drop]; omega) hlt (fun r hr' => hsz r (List.mem_of_mem_drop (List.mem_of_mem_take hr'))) (fun i j r c h3 h4 => ?_) (fun i j r c h3 h4 => ?_)
      · have := hc (lo + i) j r c (hget i r h3) h4
        have e : off + lo * sz' + (i * sz' + j) = off + ((lo + i) * sz' + j) := by rw [Nat.add_mul]; omega
        rw [e]; exact this
      · exact hr (lo + i) j r c (hget i r h3) h4
theorem Q_cut1 {t e : Nat} {x lo : Operand} {ti te : TI} {rows : List (List Cell)} {k : IntKind} {a : Int} (hx : Ev (St.mk n0 env bl) p x (.pv (.one (.sl rows)))) (ha : Ev (St.mk n0 env bl) p lo (.pv (.one (.int k a))))
    (ht : T t = some ti) (hk : ti.kind = .slice e) (he : T e = some te) (hrows : ∀ r ∈ rows, r.length = te.sz) (hr : p → 0 ≤ a ∧ a ≤ rows.length) : PureOp P G (St.mk n0 env bl) ⟨dst, .slice t x (some lo) none none, ty, pos, after, gd⟩ p (.pv (.one (.sl (rows.drop a.toNat)))) := PureOp.val fun Φ β ac w hs hp => by
  have hu : P.underlying t = some (.slice e) := by have := (hT _ _ ht).kind; rw [hk] at this; exact this
  have h2 := AVRel.int (hs.ev ha hp)
  obtain ⟨r1, r2⟩ := hr hp
  obtain ⟨av, len, cap, h1, hlen, hcap, hrel⟩ := rel_cut (lo := a.toNat) (hi := rows.length) (show Rel Φ (ac.eval x) _ from hs.ev hx hp) hrows (by omega) (Nat.le_refl _)
  have e0 : (rows.drop a.toNat).take (rows.length - a.toNat) = rows.drop a.toNat := List.take_of_length_le (by simp)
  rw [e0] at hrel
  refine ⟨_, exec_val (m := Instr.sliceAt t (ac.eval x) (some (ac.eval lo)) none none) (by simp only [execOp]; rfl) ?_, hrel⟩
  rw [h1, h2, hlen]
  have e2 : (Instr.sliceBound (.int k a) rows.length .sliceB).run P w = .ok a.toNat w := run_bound ⟨r1, by omega⟩
  simp [Instr.sliceAt, run_underlying hu, Instr.slice, Instr.sliceBounds, e2, run_sizeOf hT he]
theorem Q_cut0 {t e : Nat} {x hi : Operand} {ti te : TI} {rows : List (List Cell)} {k : IntKind} {b : Int} (hx : Ev (St.mk n0 env bl) p x (.pv (.one (.sl rows)))) (hb : Ev (St.mk n0 env bl) p hi (.pv (.one (.int k b))))
    (ht : T t = some ti) (hk : ti.kind = .slice e) (he : T e = some te) (hrows : ∀ r ∈ rows, r.length = te.sz) (hr : p → 0 ≤ b ∧ b ≤ rows.length) : PureOp P G (St.mk n0 env bl) ⟨dst, .slice t x none (some hi) none, ty, pos, after, gd⟩ p (.pv (.one (.sl (rows.take b.toNat)))) := PureOp.val fun Φ β ac w hs hp => by
  have hu : P.underlying t = some (.slice e) := by have := (hT _ _ ht).kind; rw [hk] at this; exact this
  have h2 := AVRel.int (hs.ev hb hp)
  obtain ⟨r1, r2⟩ := hr hp
  obtain ⟨av, len, cap, h1, hlen, hcap, hrel⟩ := rel_cut (lo := 0) (hi := b.toNat) (show Rel Φ (ac.eval x) _ from hs.ev hx hp) hrows (by omega) (by omega)
  simp only [List.drop_zero, Nat.sub_zero] at hrel
  refine ⟨_, exec_val (m := Instr.sliceAt t (ac.eval x) none (some (ac.eval hi)) none) (by simp only [execOp]; rfl) ?_, hrel⟩
  rw [h1, h2]
  have e2 : (Instr.sliceBound (.int k b) cap .sliceAcap).run P w = .ok b.toNat w := run_bound ⟨r1, by omega⟩
  simp [Instr.sliceAt, run_underlying hu, Instr.slice, Instr.sliceBounds, e2, run_sizeOf hT he]
end
end Lf
end
section
set_option linter.unusedVariables false
set_option linter.unusedSimpArgs false
set_option linter.unusedSectionVars false
namespace Lf
open Go Go.RowKit
section
variable {P : Program} {G : Ghost} {A : St} {Φ : Frz} {β : Own} {a : Act} {w w' : World}
/-- what a callee made, as1 data -/
theorem OCalls.data {f : FuncId} {args : List PV} {E sz : Nat} {rows : List (List Cell)} (h : OCalls P f args E sz rows) (hE : Nat.ble mapTag E = false) : ACalls P f args (.pv (.one (.sl rows))) where
  fn := h.fn
  calls := fun Φ w vs hfit harg => by
    refine Calls.mono (h.calls Φ w vs hfit harg) ?_
    rintro e w' ⟨v, Φ', rfl, hv, hle, heq, hf, hb⟩
    rcases hv with ⟨rfl, rfl⟩ | ⟨b, cap, rfl, hbs, hbl, hΦ⟩
    · exact ⟨_, Φ', rfl, Rel.sl0, hle, heq, hf, hb⟩
    · obtain ⟨cur, g1, g2, g3, g4, g5, g6⟩ := hbl.cells hE
      have hle2 : Φ'.le (fun c => if c = b then some cur else Φ' c) := fun c x hc => by
        by_cases e : c = b
        · subst e; rw [hΦ] at hc; cases hc
        · simp [e, hc]
      refine ⟨_, fun c => if c = b then some cur else Φ' c, rfl, ?_, Frz.le_trans hle hle2, fun c hc => ?_, fun c x hc => ?_, hb⟩
      · show Rel _ _ _
        refine .sl b 0 rows.length cap sz rows (fun i j => (cur[i * sz + j]?).getD undef) rfl g2 g5 (fun i j r c hi hj => ?_) (fun i j r c hi hj => ?_)
        · obtain ⟨v, q1, q2⟩ := g6 i j r c hi hj
          simp [q1]
        · obtain ⟨v, q1, q2⟩ := g6 i j r c hi hj
          rw [q1]; exact q2.mono hle2
      · show (if c = b then some cur else Φ' c) = Φ c
        rw [if_neg (by omega)]; exact heq c hc
      · simp only at hc
        split at hc
        · rename_i e; subst e; cases hc; exact ⟨_, _, g1⟩
        · exact hf c x hc
end
section
variable {P : Program} {G : Ghost} {ops : Array Oper} {rest : List Oper} {Q : St → Prop} {n0 : Nat} {env : List (Nat × (Prop × AV))} {bl : List (Nat × Blk)} {p : Prop} {dst : Option Nat} {ty : TypeId} {pos : String} {after : Array Edge} {gd : Option (Nat × Bool)}
end
end Lf
end
section
set_option linter.unusedVariables false
set_option linter.unusedSimpArgs false
namespace Lf
open Go
variable {P : Program} {G : Ghost} {n0 : Nat} {env : List (Nat × (Prop × AV))} {bl : List (Nat × Blk)} {p : Prop} {dst : Option Nat} {ty : TypeId} {pos : String} {after : Array Edge} {gd : Option (Nat × Bool)}
def frzV1 (n : Nat) (bl : List (Nat × Blk)) (v : AV) : AV := bif v.ment n then (match v with | .itr _ _ => .top | .mp _ => .top | .mpn _ _ => .top | v => frzV bl v) else v
def frz1 (n : Nat) (bl : List (Nat × Blk)) : List (Nat × (Prop × AV)) → List (Nat × (Prop × AV))
  | [] => []
  | (t, (q, v)) :: r => (t, (q, frzV1 n bl v)) :: frz1 n bl r
theorem lk_frz1 (n : Nat) (bl : List (Nat × Blk)) : ∀ (env : List (Nat × (Prop × AV))) (t : Nat) (q : Prop) (v : AV), lk (frz1 n bl env) t = some (q, v) → ∃ v', lk env t = some (q, v') ∧ v = frzV1 n bl v'
  | [], t, q, v, h => by simp [frz1, lk] at h
  | (s, (q0, v0)) :: r, t, q, v, h => by
    rw [frz1, lk_cons] at h
    rw [lk_cons]
    split at h
    · rename_i e
      simp only [Option.some.injEq, Prod.mk.injEq] at h
      rw [if_pos e]
      exact ⟨v0, by rw [h.1], h.2.symm⟩
    · rename_i e
      rw [if_neg e]
      exact lk_frz1 n bl r t q v h
theorem AVRel.drop1 {A : St} {Φ Φ' : Frz} {β : Own} {m : Nat} {v : Value} {x : AV} (h : AVRel Φ β A.blks v x) (hle : Φ.le Φ') (hm : x.ment m = false) : AVRel Φ' (fun k => if k = m then none else β k) (dropB m A.blks) v x := by
  have hl : ∀ k, k ≠ m → lk (dropB m A.blks) k = lk A.blks k := fun k hk => by rw [lk_dropB, if_neg hk]
  have hb : ∀ k, k ≠ m → (fun k => if k = m then none else β k) k = β k := fun k hk => by simp [hk]
  cases x with
  | pv p => exact PRel.mono hle h
  | tup l => exact AVRel.mono hle h
  | top => trivial
  | addr n i off =>
    have e : n ≠ m := fun e => by subst e; simp [AV.ment] at hm
    obtain ⟨b', cap', B', g1, g2, g3⟩ := h
    exact ⟨b', cap', B', by rw [hb n e]; exact g1, by rw [hl n e]; exact g2, g3⟩
  | slc n =>
    have e : n ≠ m := fun e => by subst e; simp [AV.ment] at hm
    obtain ⟨B', g2, g3⟩ := h
    exact ⟨B', by rw [hl n e]; exact g2, by rw [hb n e]; exact g3⟩
  | pin n b c f =>
    have e : n ≠ m := fun e => by subst e; simp [AV.ment] at hm
    obtain ⟨B', g1, g2, g3⟩ := h
    exact ⟨B', by rw [hb n e]; exact g1, by rw [hl n e]; exact g2, g3⟩
  | mp n =>
    have e : n ≠ m := fun e => by subst e; simp [AV.ment] at hm
    obtain ⟨b', cap', B', g1, g2, g3⟩ := h
    exact ⟨b', cap', B', by rw [hb n e]; exact g1, by rw [hl n e]; exact g2, g3⟩
  | mpn n bb =>
    have e : n ≠ m := fun e => by subst e; simp [AV.ment] at hm
    obtain ⟨b', cap', B', g1, g2, g3⟩ := h
    exact ⟨b', cap', B', by rw [hb n e]; exact g1, by rw [hl n e]; exact g2, g3⟩
  | itr d n =>
    have e : n ≠ m := fun e => by subst e; simp [AV.ment] at hm
    have e' : d ≠ m := fun e => by subst e; simp [AV.ment] at hm
    obtain ⟨b', cap', B', M, c, g1, g2, g3, g4, g5, g6⟩ := h
    exact ⟨b', cap', B', M, c, by rw [hb d e']; exact g1, by rw [hl d e']; exact g2, g3, by rw [hb n e]; exact g4, by rw [hl n e]; exact g5, g6⟩
theorem Le.freeze1 {A : St} {m : Nat} {B : Blk} (hm : lk A.blks m = some B) : Le A { A with env := frz1 m A.blks A.env, blks := dropB m A.blks } := fun G Φ β a w hs => by
  have hs1 : Sat G Φ β ⟨A.n, [], [(m, B)]⟩ a w := by
    have key : ∀ {k C}, lk [(m, B)] k = some C → k = m ∧ C = B := fun {k C} h => by
      rw [lk_cons] at h
      split at h
      · rename_i e; exact ⟨e.symm, (Option.some.inj h).symm⟩
      · simp [lk] at h
    refine ⟨hs.kept, hs.fits, hs.old, hs.siz, hs.dfr, fun t q v h => by simp [lk] at h, fun n C b cap h1 h2 => ?_, fun n C h1 h2 => ?_, fun n n' C C' b c c' h1 h2 h3 h4 => ?_⟩
    · obtain ⟨rfl, rfl⟩ := key h1
      exact hs.blk _ _ b cap hm h2
    · obtain ⟨rfl, rfl⟩ := key h1
      exact hs.vir _ _ hm h2
    · rw [(key h1).1, (key h2).1]
  have hno : ∀ k C b cap, lk (dropB m A.blks) k = some C → β k = some (b, cap) → ¬ ownedBy β [(m, B)] b := fun k C b cap h1 h2 ⟨n, D, c', k1, k2⟩ => by
    rw [lk_dropB] at h1; split at h1
    · cases h1
    · rename_i e
      rw [lk_cons] at k1
      split at k1
      · rename_i e'; subst e'
        exact e (hs.inj k m C B b cap c' h1 hm h2 k2)
      · simp [lk] at k1
  refine ⟨frzAll Φ β [(m, B)] w, fun k => if k = m then none else β k, hs1.frz_le, hs.kept, hs1.frz_fits, fun b hk => ?_, hs.siz, hs.dfr, fun t q v h => ?_, fun n C b cap h1 h2 => ?_, fun n C h1 h2 => ?_, fun n n' C C' b c c' h1 h2 h3 h4 => ?_⟩
  · have hn : ¬ ownedBy β [(m, B)] b := fun ⟨n, C, cap, h1, h2⟩ => (hs1.blk n C b cap h1 h2).2.1 hk
    unfold frzAll
    rw [if_neg hn]
    exact hs.old b hk
  · obtain ⟨v', h1, rfl⟩ := lk_frz1 _ _ _ _ _ _ h
    refine ⟨fun hq => ?_, (hs.env t q v' h1).2⟩
    have h3 := (hs.env t q v' h1).1 hq
    unfold frzV1
    cases hmt : v'.ment m with
    | false => exact h3.drop1 hs1.frz_le hmt
    | true =>
      simp only [cond_true]
      cases v' with
      | mp n => trivial
      | mpn n bb => trivial
      | itr d n => trivial
      | tup l => simp [AV.ment] at hmt
      | pv p => simp [AV.ment] at hmt
      | top => trivial
      | pin n b c f => trivial
      | addr n i off =>
        have e : n = m := Nat.eq_of_beq_eq_true hmt
        subst e
        obtain ⟨b', cap', B', g1, g2, g3⟩ := h3
        rw [hm] at g2; obtain rfl := Option.some.inj g2
        have h5 : AVRel Φ β [(n, B)] (a.tmps.getD t undef) (.addr n i off) := ⟨b', cap', B, g1, by rw [lk_cons, if_pos rfl], g3⟩
        have e : toPV A.blks (.addr n i off) = toPV [(n, B)] (.addr n i off) := by simp only [toPV, hm, lk_cons, if_true]
        simp only [frzV, e]
        cases hq' : toPV [(n, B)] (.addr n i off) with
        | none => trivial
        | some p => exact hs1.toPV h5 hq'
      | slc n =>
        have e : n = m := Nat.eq_of_beq_eq_true hmt
        subst e
        obtain ⟨B', g2, g3⟩ := h3
        rw [hm] at g2; obtain rfl := Option.some.inj g2
        have h5 : AVRel Φ β [(n, B)] (a.tmps.getD t undef) (.slc n) := ⟨B, by rw [lk_cons, if_pos rfl], g3⟩
        have e : toPV A.blks (.slc n) = toPV [(n, B)] (.slc n) := by simp only [toPV, hm, lk_cons, if_true]
        simp only [frzV, e]
        cases hq' : toPV [(n, B)] (.slc n) with
        | none => trivial
        | some p => exact hs1.toPV h5 hq'
  · have h1' := h1
    simp only [lk_dropB] at h1
    split at h1
    · cases h1
    · rename_i e
      simp only [e, if_false] at h2
      obtain ⟨k1, k2, k3⟩ := hs.blk n C b cap h1 h2
      refine ⟨k1.keep hs1.frz_le rfl, k2, ?_⟩
      unfold frzAll
      rw [if_neg (hno n C b cap h1' h2)]
      exact k3
  · simp only [lk_dropB] at h1
    split at h1
    · cases h1
    · rename_i e
      simp only [e, if_false] at h2
      exact hs.vir n C h1 h2
  · simp only [lk_dropB] at h1 h2
    split at h1
    · cases h1
    · split at h2
      · cases h2
      · rename_i e e'
        simp only [e, if_false] at h3
        simp only [e', if_false] at h4
        exact hs.inj n n' C C' b c c' h1 h2 h3 h4
end Lf
end
