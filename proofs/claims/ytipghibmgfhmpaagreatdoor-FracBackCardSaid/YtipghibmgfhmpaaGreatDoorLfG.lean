/-
  Calls that look at a package-level variable: a condition on the memory as it stands when the call begins.
-/
import Derived.Test.YtipghibmgfhmpaaGreatDoorLfStr
set_option linter.unusedVariables false
set_option linter.unusedSimpArgs false
set_option linter.unusedSectionVars false
namespace Lf
open Go Go.RowKit
section
variable {P : Program} {G : Ghost} {A : St} {Φ : Frz} {β : Own} {a : Act} {w w' : World}
/-- block γ holds these cells, and they say all of the values -/
def RelG (Φ : Frz) (γ : Nat) (cs : List Cell) : Prop := ∃ arr : Array Value, Φ γ = some arr ∧ ∀ Φ', RelL Φ' arr.toList cs
def GhostG (G : Ghost) (γ : Nat) (cs : List Cell) : Prop := G.K γ ∧ RelG G.F0 γ cs
theorem RelG.flat {γ : Nat} {cs : List Cell} {arr : Array Value} (h : Φ γ = some arr) (hr : RelL Φ arr.toList cs) (hf : cs.all Cell.flat = true) : RelG Φ γ cs := ⟨arr, h, fun Φ' => hr.flat hf⟩
theorem Sat.relG {γ : Nat} {cs : List Cell} (hs : Sat G Φ β A a w) (hG : GhostG G γ cs) : RelG Φ γ cs := by
  obtain ⟨hk, arr, h1, h2⟩ := hG
  exact ⟨arr, by rw [hs.old γ hk]; exact h1, h2⟩
theorem Sat.relG_frz {γ : Nat} {cs : List Cell} (hs : Sat G Φ β A a w) (hG : GhostG G γ cs) : RelG (frzAll Φ β A.blks w) γ cs := by
  obtain ⟨arr, h1, h2⟩ := hs.relG hG
  exact ⟨arr, hs.frz_le γ arr h1, h2⟩
/-- THE CONTRACT OF A FUNCTION that looks at the variable of block γ. -/
structure GCalls (P : Program) (γ : Nat) (cs : List Cell) (f : FuncId) (args : List PV) (r : AV) : Prop where
  fn : FnOK P f
  calls : ∀ (Φ : Frz) (w : World) (vs : Array Value), Fits Φ w → RelG Φ γ cs → ArgsRel Φ vs args →
    Calls P f vs w (fun e w' => ∃ v Φ', e = .returned v ∧ AVRel Φ' (fun _ => none) [] v r ∧ Φ.le Φ' ∧ (∀ b, b < w.heap.size → Φ' b = Φ b) ∧ Fits Φ' w' ∧ Below w.heap.size w w')
theorem GCalls.of_A {γ : Nat} {cs : List Cell} {f : FuncId} {args : List PV} {r : AV} (h : ACalls P f args r) : GCalls P γ cs f args r := ⟨h.fn, fun Φ w vs h1 _ h2 => h.calls Φ w vs h1 h2⟩
theorem GCalls.of_W {γ : Nat} {cs : List Cell} {f : FuncId} {fn : Func} {c : Code} {args qs : List PV} (ts : List Nat) (n : Nat) (hf : P.funcs[f]? = some fn) (hn : (fn.name == "runtime.NumGoroutine") = false) (hb : fn.body = some c)
    (hr : fn.results = (ts.map ResultVar.tmp).toArray) (hnt : fn.ntmps = n) (h : ∀ G, GhostG G γ cs → W P G c (Fin ts qs) (St.init n args)) : GCalls P γ cs f args (ofRes qs) where
  fn := ⟨fn, hf, hn, by rw [hb]; rfl⟩
  calls := fun Φ w vs hfit hgl harg => by
    subst hnt
    have hK : GhostG { w0 := w, K := fun b => b < w.heap.size, F0 := Φ, lt := fun b h => h } γ cs := by
      obtain ⟨arr, h1, h2⟩ := hgl
      obtain ⟨E, fz, hw⟩ := hfit γ arr h1
      exact ⟨(Array.getElem?_eq_some_iff.1 hw).1, arr, h1, h2⟩
    refine calls_of_wp hf hb (wp_mono (h _ hK Φ (fun _ => none) _ w (sat_init (f := f) rfl hfit harg)) fun e a' w' ⟨A', Φ', β', ⟨he, hres⟩, hs, hle⟩ => ?_)
    have hv : a'.defers = [] ∧ ∃ v, (results fn a'.tmps).run P w' = .ok v w' ∧ (∃ v1 Φ'', Ending.returned v = .returned v1 ∧ AVRel Φ'' (fun _ => none) [] v1 (ofRes qs) ∧ Φ.le Φ'' ∧ (∀ b, b < w.heap.size → Φ'' b = Φ b) ∧ Fits Φ'' w' ∧ Below w.heap.size w w') := by
      refine ⟨hs.dfr, _, run_results hr _ _, _, frzAll Φ' β' A'.blks w', rfl, ?_, Frz.le_trans hle hs.frz_le, fun b hb => ?_, hs.frz_fits, ⟨hs.kept.os, hs.kept.tape, hs.kept.output, hs.kept.size, hs.kept.block⟩⟩
      · have hl := resl_len hres
        match ts, qs, hres, hl with
        | [], [], _, _ => exact ⟨#[], rfl, rfl, fun j p h => by simp at h⟩
        | [t], [q], hres, _ =>
          obtain ⟨t', h1, h2⟩ := resl_get hs hres 0 q rfl
          simp at h1; subst h1
          exact h2
        | t :: t2 :: ts, q :: q2 :: qs, hres, hl =>
          refine ⟨_, rfl, by simpa using hl, fun j p hp => ?_⟩
          obtain ⟨t', h1, h2⟩ := resl_get hs hres j p hp
          exact ⟨_, by simp only [List.getElem?_toArray, List.getElem?_map, h1]; rfl, h2⟩
      · have hno : ¬ ownedBy β' A'.blks b := fun ⟨n, B, cap, h1, h2⟩ => (hs.blk n B b cap h1 h2).2.1 hb
        unfold frzAll
        rw [if_neg hno]
        exact hs.old b hb
    rcases he with rfl | rfl
    · exact hv
    · exact hv
end
section
variable {P : Program} {G : Ghost} {n0 : Nat} {env : List (Nat × (Prop × AV))} {bl : List (Nat × Blk)} {p : Prop} {dst : Option Nat} {ty : TypeId} {pos : String} {after : Array Edge} {gd : Option (Nat × Bool)} {γ : Nat} {cs : List Cell}
theorem Q_callG {f : FuncId} {xs : List Operand} {ats : Array TypeId} {ps : List PV} {r : AV} (hG : GhostG G γ cs) (hc : GCalls P γ cs f ps r) (hx : EvL (St.mk n0 env bl) p xs ps) (hr : r.flat = true) :
    PureOp P G (St.mk n0 env bl) ⟨dst, .call ⟨.value (.func f), xs.toArray, ats⟩, ty, pos, after, gd⟩ p r := fun Φ β a w hs hp => by
  unfold Oper.wp
  rw [call_run rfl hc.fn]
  refine Calls.mono (hc.calls (frzAll Φ β bl w) w _ hs.frz_fits (hs.relG_frz hG) ⟨by simp [evl_len hx], fun j q hq => ?_⟩) ?_
  · obtain ⟨x, h1, h2⟩ := evl_args hs hp hx j q hq
    exact ⟨a.eval x, by simp [h1], h2⟩
  · rintro e w' ⟨v, Φ', rfl, hv, hle, heq, hfit, hb⟩
    refine ⟨v, Φ, rfl, hv.ret_flat hr, Φ.le_refl, fun _ _ => rfl, fun b c h => ?_, hb⟩
    obtain ⟨E, fz, hw⟩ := hs.fits b c h
    exact ⟨E, fz, by rw [hb.block b (Array.getElem?_eq_some_iff.1 hw).1]; exact hw⟩
theorem Q_callGd {f : FuncId} {xs : List Operand} {ats : Array TypeId} {ps : List PV} {r : AV} (hG : GhostG G γ cs) (hc : GCalls P γ cs f ps r) (hx : EvD (St.mk n0 env bl) p xs ps) :
    PureOp P G (St.mk n0 env bl) ⟨dst, .call ⟨.value (.func f), xs.toArray, ats⟩, ty, pos, after, gd⟩ p r := fun Φ β a w hs hp => by
  unfold Oper.wp
  rw [call_run rfl hc.fn]
  refine Calls.mono (hc.calls Φ w _ hs.fits (hs.relG hG) ⟨by simp [evd_len hx], fun j q hq => ?_⟩) ?_
  · obtain ⟨x, h1, h2⟩ := evd_args hs hp hx j q hq
    exact ⟨a.eval x, by simp [h1], h2⟩
  · rintro e w' ⟨v, Φ', rfl, hv, hle, heq, hfit, hb⟩
    exact ⟨v, Φ', rfl, hv.ret, hle, heq, hfit, hb⟩
variable {T : TT} (hT : TOK P T)
include hT
/-- the whole of the variable -/
theorem Q_loadG {t : Nat} {ti : TI} (hG : GhostG G γ cs) (ht : T t = some ti) (hb : ti.kind.isAgg = some true) (hz : cs.length = ti.sz) :
    PureOp P G (St.mk n0 env bl) ⟨dst, .load t (.global γ), ty, pos, after, gd⟩ p (.pv (.agg cs)) := PureOp.val fun Φ β a w hs hp => by
  obtain ⟨arr, h1, h2⟩ := hs.relG hG
  have hr := h2 Φ
  have hlen := hr.length
  have hcell : ∀ j, j < ti.sz → w.cell? ⟨γ, 0 + j, none⟩ = some ((arr[j]?).getD undef) := fun j hj => by
    have hj' : j < arr.size := by simp at hlen; omega
    refine fits_cell hs.fits ?_
    rw [h1]
    simp [Array.getElem?_eq_getElem hj']
  refine ⟨.agg ((List.range ti.sz).map fun j => (arr[j]?).getD undef).toArray, exec_load (o := ⟨dst, .load t (.global γ), ty, pos, after, gd⟩) rfl (run_loadAt_agg hT ht hb hcell), _, rfl, ?_⟩
  rw [← hz]
  refine relL_range fun j c hj => ?_
  obtain ⟨v, q1, q2⟩ := hr.get hj
  have : arr[j]? = some v := by simpa using q1
  rw [this]; exact q2
end
end Lf
