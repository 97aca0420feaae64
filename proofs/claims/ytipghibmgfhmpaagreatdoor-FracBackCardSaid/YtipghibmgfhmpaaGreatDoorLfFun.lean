/-
  Function values: making one, calling one.
-/
import Derived.Test.YtipghibmgfhmpaaGreatDoorLfMore
set_option linter.unusedVariables false
set_option linter.unusedSimpArgs false
set_option linter.unusedSectionVars false
namespace Lf
open Go Go.RowKit

section
variable {P : Program} {G : Ghost} {A : St} {a : Act} {w : World}
theorem callv_run {f : FuncId} {x : Operand} {vs : Array Value} {xs : List Operand} {ats : Array TypeId} {o : Oper} (ho : o.op = .call { callee := .value x, args := xs.toArray, argTypes := ats }) (hv : a.eval x = .func (.func f) #[] vs) (hf : FnOK P f) :
    (execOp a.eval o).run P w = .ok (.enter f ((xs.map a.eval).toArray ++ vs)) w := by
  obtain ⟨fn, h1, h2, h3⟩ := hf
  have e : execOp a.eval o = (do let d ← resolve a.eval { callee := .value x, args := xs.toArray, argTypes := ats } o.type; invoke d.target d.args) := by simp only [execOp, ho]
  rw [e]
  have h2' : ¬ fn.name = "runtime.NumGoroutine" := by simpa using h2
  have h3' : ¬ fn.body = none := by intro hx; rw [hx] at h3; cases h3
  simp only [resolve, hv, Deferred.ofValue, pure_bind, invoke, callFunc]
  simp [h1, h2', h3']
theorem rel_fn {Φ : Frz} {v : Value} {f : Nat} {caps : List Cell} (h : Rel Φ v (.fn f caps)) : ∃ vs : Array Value, v = .func (.func f) #[] vs ∧ vs.size = caps.length ∧ ∀ (j : Nat) (c : Cell), caps[j]? = some c → ∃ u, vs[j]? = some u ∧ Rel Φ u c := by
  cases h with
  | fn f caps vs g hlen hc hr => exact ⟨vs, rfl, hlen, fun j c hj => ⟨g j, hc j c hj, hr j c hj⟩⟩
theorem args_more {Φ : Frz} {vs us : Array Value} {ps : List PV} {caps : List Cell} (h : vs.size = ps.length) (h1 : ∀ (j : Nat) (p : PV), ps[j]? = some p → ∃ v, vs[j]? = some v ∧ PRel Φ v p) (hl : us.size = caps.length) (h2 : ∀ (j : Nat) (c : Cell), caps[j]? = some c → ∃ u, us[j]? = some u ∧ Rel Φ u c) :
    ArgsRel Φ (vs ++ us) (ps ++ caps.map PV.one) := by
  refine ⟨by simp [h, hl], fun j p hj => ?_⟩
  rw [List.getElem?_append] at hj
  split at hj
  · rename_i hlt
    obtain ⟨v, g1, g2⟩ := h1 j p hj
    exact ⟨v, by rw [Array.getElem?_append, if_pos (by omega)]; exact g1, g2⟩
  · rename_i hge
    rw [List.getElem?_map] at hj
    cases hc : caps[j - ps.length]? with
    | none => rw [hc] at hj; cases hj
    | some c =>
      rw [hc] at hj
      obtain rfl : PV.one c = p := by simpa using hj
      obtain ⟨u, g1, g2⟩ := h2 _ c hc
      exact ⟨u, by rw [Array.getElem?_append, if_neg (by omega), h]; exact g1, g2⟩
theorem P_callv {o : Oper} {p : Prop} {f : FuncId} {x : Operand} {caps : List Cell} {xs : List Operand} {ats : Array TypeId} {ps : List PV} {r : AV} (ho : o.op = .call { callee := .value x, args := xs.toArray, argTypes := ats })
    (hc0 : Ev A p x (.pv (.one (.fn f caps)))) (hx : EvL A p xs ps) (hf : FnOK P f) (hc : p → ACalls P f (ps ++ caps.map PV.one) r) (hr : r.flat = true) : PureOp P G A o p r := fun Φ β a w hs hp => by
  obtain ⟨us, e1, e2, e3⟩ := rel_fn (hs.ev hc0 hp)
  unfold Oper.wp
  rw [callv_run ho e1 hf]
  refine Calls.mono ((hc hp).calls (frzAll Φ β A.blks w) w _ hs.frz_fits (args_more (by simp [evl_len hx]) (fun j q hq => ?_) e2 fun j c hj => ?_)) ?_
  · obtain ⟨x, h1, h2⟩ := evl_args hs hp hx j q hq
    exact ⟨a.eval x, by simp [h1], h2⟩
  · obtain ⟨u, g1, g2⟩ := e3 j c hj
    exact ⟨u, g1, g2.mono hs.frz_le⟩
  · rintro e w' ⟨v, Φ', rfl, hv, hle, heq, hfit, hb⟩
    refine ⟨v, Φ, rfl, hv.ret_flat hr, Φ.le_refl, fun _ _ => rfl, fun b c h => ?_, hb⟩
    obtain ⟨E, fz, hw⟩ := hs.fits b c h
    exact ⟨E, fz, by rw [hb.block b (Array.getElem?_eq_some_iff.1 hw).1]; exact hw⟩
theorem P_callvd {o : Oper} {p : Prop} {f : FuncId} {x : Operand} {caps : List Cell} {xs : List Operand} {ats : Array TypeId} {ps : List PV} {r : AV} (ho : o.op = .call { callee := .value x, args := xs.toArray, argTypes := ats })
    (hc0 : Ev A p x (.pv (.one (.fn f caps)))) (hx : EvD A p xs ps) (hf : FnOK P f) (hc : p → ACalls P f (ps ++ caps.map PV.one) r) : PureOp P G A o p r := fun Φ β a w hs hp => by
  obtain ⟨us, e1, e2, e3⟩ := rel_fn (hs.ev hc0 hp)
  unfold Oper.wp
  rw [callv_run ho e1 hf]
  refine Calls.mono ((hc hp).calls Φ w _ hs.fits (args_more (by simp [evd_len hx]) (fun j q hq => ?_) e2 e3)) ?_
  · obtain ⟨x, h1, h2⟩ := evd_args hs hp hx j q hq
    exact ⟨a.eval x, by simp [h1], h2⟩
  · rintro e w' ⟨v, Φ', rfl, hv, hle, heq, hfit, hb⟩
    exact ⟨v, Φ', rfl, hv.ret, hle, heq, hfit, hb⟩
end
section
variable {P : Program} {G : Ghost} {n0 : Nat} {env : List (Nat × (Prop × AV))} {bl : List (Nat × Blk)} {p : Prop} {dst : Option Nat} {ty : TypeId} {pos : String} {after : Array Edge} {gd : Option (Nat × Bool)}
theorem Q_callv {f : FuncId} {x : Operand} {caps : List Cell} {xs : List Operand} {ats : Array TypeId} {ps : List PV} {r : AV} (hc0 : Ev (St.mk n0 env bl) p x (.pv (.one (.fn f caps)))) (hx : EvL (St.mk n0 env bl) p xs ps) (hf : FnOK P f)
    (hc : p → ACalls P f (ps ++ caps.map PV.one) r) (hr : r.flat = true) : PureOp P G (St.mk n0 env bl) ⟨dst, .call ⟨.value x, xs.toArray, ats⟩, ty, pos, after, gd⟩ p r := P_callv rfl hc0 hx hf hc hr
theorem Q_callvd {f : FuncId} {x : Operand} {caps : List Cell} {xs : List Operand} {ats : Array TypeId} {ps : List PV} {r : AV} (hc0 : Ev (St.mk n0 env bl) p x (.pv (.one (.fn f caps)))) (hx : EvD (St.mk n0 env bl) p xs ps) (hf : FnOK P f)
    (hc : p → ACalls P f (ps ++ caps.map PV.one) r) : PureOp P G (St.mk n0 env bl) ⟨dst, .call ⟨.value x, xs.toArray, ats⟩, ty, pos, after, gd⟩ p r := P_callvd rfl hc0 hx hf hc
/-- a function named as a value -/
theorem Q_makeFunc0 {f : Nat} : PureOp P G (St.mk n0 env bl) ⟨dst, .makeFunc (.func f) #[] #[], ty, pos, after, gd⟩ p (.pv (.one (.fn f []))) := PureOp.val fun Φ β a w hs hp =>
  ⟨.func (.func f) #[] #[], by simp [execOp, Instr.makeFunc], Rel.fn f [] #[] (fun _ => .nilFunc) rfl (fun j c h => by simp at h) (fun j c h => by simp at h)⟩
end
end Lf
