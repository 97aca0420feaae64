/-
  Functions whose results lie partly in cells of their own: plain contracts, and contracts that look at a package-level variable.
-/
import Derived.Test.YtipghibmgfhmpaaGreatDoorLfG
set_option linter.unusedVariables false
set_option linter.unusedSimpArgs false
set_option linter.unusedSectionVars false
namespace Lf
open Go Go.RowKit
inductive RV where
  | tmp (t : Nat)
  | cell (t ty : Nat)
def RV.var : RV → ResultVar
  | .tmp t => .tmp t
  | .cell t ty => .cell t ty
section
variable {P : Program} {G : Ghost} {A : St} {Φ : Frz} {β : Own} {a : Act} {w w' : World} {T : TT}
def ResM (T : TT) (A : St) : List RV → List PV → Prop
  | [], [] => True
  | .tmp t :: rs, q :: qs => (∃ av r, lk A.env t = some (True, av) ∧ toPV A.blks av = some r ∧ PSub r q) ∧ ResM T A rs qs
  | .cell t ty :: rs, q :: qs => (∃ ti m cs, T ty = some ti ∧ ti.kind.isAgg = some true ∧ lk A.env t = some (True, .addr m 0 0) ∧ lk A.blks m = some ⟨ty, ti.sz, [cs]⟩ ∧ PSub (.agg cs) q) ∧ ResM T A rs qs
  | _, _ => False
theorem ResM.nil : ResM T A [] [] := trivial
theorem ResM.tmp {t : Nat} {rs : List RV} {q r : PV} {qs : List PV} {av : AV} (h : lk A.env t = some (True, av)) (hv : toPV A.blks av = some r) (hs : PSub r q) (ht : ResM T A rs qs) : ResM T A (.tmp t :: rs) (q :: qs) := ⟨⟨av, r, h, hv, hs⟩, ht⟩
theorem ResM.cell {t ty m : Nat} {ti : TI} {rs : List RV} {q : PV} {cs : List Cell} {qs : List PV} (h1 : T ty = some ti) (h2 : ti.kind.isAgg = some true) (h : lk A.env t = some (True, .addr m 0 0)) (hv : lk A.blks m = some ⟨ty, ti.sz, [cs]⟩) (hs : PSub (.agg cs) q) (ht : ResM T A rs qs) : ResM T A (.cell t ty :: rs) (q :: qs) := ⟨⟨ti, m, cs, h1, h2, h, hv, hs⟩, ht⟩
def FinM (T : TT) (rs : List RV) (qs : List PV) (e : Exit) (A : St) : Prop := (e = .normal ∨ e = .ret) ∧ ResM T A rs qs
theorem FinM.ret {rs : List RV} {qs : List PV} (h : ResM T A rs qs) : FinM T rs qs .ret A := ⟨.inr rfl, h⟩
theorem FinM.normal {rs : List RV} {qs : List PV} (h : ResM T A rs qs) : FinM T rs qs .normal A := ⟨.inl rfl, h⟩
/-- what a result variable holds at the end -/
def rvVal (tmps : Array Value) (w : World) (v : Value) : RV → Prop
  | .tmp t => v = tmps.getD t undef
  | .cell t ty => True
theorem run_cell (hT : TOK P T) (hs : Sat G Φ β A a w) {t ty m : Nat} {ti : TI} {cs : List Cell} (hty : T ty = some ti) (hag : ti.kind.isAgg = some true) (h1 : lk A.env t = some (True, .addr m 0 0)) (h2 : lk A.blks m = some ⟨ty, ti.sz, [cs]⟩) :
    ∃ v, (asAddr (a.tmps.getD t undef) >>= loadVar ty).run P w = .ok v w ∧ PRel Φ v (.agg cs) := by
  obtain ⟨b, cap, B, k1, k2, hob, k3⟩ := (hs.env t True _ h1).1 trivial
  rw [h2] at k2
  obtain rfl := Option.some.inj k2
  obtain ⟨cur, g1, g2, g3, g4, g5, g6⟩ := (hs.blk m _ b cap h2 k1).1.cells hob
  have hlen : cs.length = ti.sz := g5 cs (by simp)
  have hcell : ∀ j, j < ti.sz → w.cell? ⟨b, 0 + j, none⟩ = some ((cur[j]?).getD undef) := fun j hj => by
    obtain ⟨v, q1, q2⟩ := g6 0 j cs (cs[j]'(by omega)) rfl (List.getElem?_eq_getElem _)
    simp only [Nat.zero_mul, Nat.zero_add] at q1 ⊢
    rw [cell_of_row w b _ cur _ (0, 0) g1, q1]; rfl
  have hload := run_loadCells (P := P) w ⟨b, 0, none⟩ ti.sz (fun j => (cur[j]?).getD undef) (fun j hj => by rw [Addr.add_lit]; exact hcell j hj)
  refine ⟨.agg ((List.range ti.sz).map fun j => (cur[j]?).getD undef).toArray, ?_, _, rfl, ?_⟩
  · have e1 : a.tmps.getD t undef = .pointer (some ⟨b, 0, none⟩) := by rw [k3]; simp
    rw [e1]
    simp [asAddr, loadVar, run_isAgg hT hty hag, run_sizeOf hT hty, hload]
  · rw [← hlen]
    refine relL_range fun j c hj => ?_
    obtain ⟨v, q1, q2⟩ := g6 0 j cs c rfl hj
    simp only [Nat.zero_mul, Nat.zero_add] at q1
    rw [q1]; exact q2
theorem resm_run (hT : TOK P T) {f : ResultVar → Sem Value} (hs : Sat G Φ β A a w) (hf1 : ∀ t, f (.tmp t) = pure (a.tmps.getD t undef)) (hf2 : ∀ t ty, f (.cell t ty) = (asAddr (a.tmps.getD t undef) >>= loadVar ty)) :
    ∀ {rs : List RV} {qs : List PV}, ResM T A rs qs → ∃ vs : List Value, ((rs.map RV.var).mapM f).run P w = .ok vs w ∧ vs.length = qs.length ∧ ∀ (j : Nat) (q : PV), qs[j]? = some q → ∃ v, vs[j]? = some v ∧ PRel (frzAll Φ β A.blks w) v q
  | [], [], _ => ⟨[], rfl, rfl, fun j q h => by simp at h⟩
  | .tmp t :: rs, q0 :: qs, ⟨⟨av, r, h1, h2, h3⟩, h⟩ => by
    obtain ⟨vs, e1, e2, e3⟩ := resm_run hT hs hf1 hf2 h
    refine ⟨a.tmps.getD t undef :: vs, ?_, by simp [e2], fun j q hq => ?_⟩
    · simp only [List.map_cons, List.mapM_cons, RV.var, hf1, pure_bind, Sem.run_bind, e1]
      rfl
    · cases j with
      | zero => simp at hq; subst hq; exact ⟨_, rfl, (hs.toPV ((hs.env t True av h1).1 trivial) h2).sub h3⟩
      | succ j => simpa using e3 j q (by simpa using hq)
  | .cell t ty :: rs, q0 :: qs, ⟨⟨ti, m, cs, h1, h2, h3, h4, h5⟩, h⟩ => by
    obtain ⟨vs, e1, e2, e3⟩ := resm_run hT hs hf1 hf2 h
    obtain ⟨v, k1, k2⟩ := run_cell hT hs h1 h2 h3 h4
    refine ⟨v :: vs, ?_, by simp [e2], fun j q hq => ?_⟩
    · rw [List.map_cons, List.mapM_cons, RV.var, hf2, Sem.run_bind, k1]
      simp only [Result.andThen, Sem.run_bind, e1]
      rfl
    · cases j with
      | zero => simp at hq; subst hq; exact ⟨_, rfl, (k2.mono hs.frz_le).sub h5⟩
      | succ j => simpa using e3 j q (by simpa using hq)
/-- The call, out of the walk of its body. -/
theorem calls_mix (hT : TOK P T) {f : FuncId} {fn : Func} {c : Code} {args qs : List PV} (rs : List RV) (hf : P.funcs[f]? = some fn) (hb : fn.body = some c)
    (hr : fn.results = (rs.map RV.var).toArray) {Φ : Frz} {w : World} {vs : Array Value} (hfit : Fits Φ w) (harg : ArgsRel Φ vs args)
    (h : W P { w0 := w, K := fun b => b < w.heap.size, F0 := Φ, lt := fun b h => h } c (FinM T rs qs) (St.init fn.ntmps args)) :
    Calls P f vs w (fun e w' => ∃ v Φ', e = .returned v ∧ AVRel Φ' (fun _ => none) [] v (ofRes qs) ∧ Φ.le Φ' ∧ (∀ b, b < w.heap.size → Φ' b = Φ b) ∧ Fits Φ' w' ∧ Below w.heap.size w w') := by
  refine calls_of_wp hf hb (wp_mono (h Φ (fun _ => none) _ w (sat_init (f := f) rfl hfit harg)) fun e a' w' ⟨A', Φ', β', ⟨he, hres⟩, hs, hle⟩ => ?_)
  have hv : a'.defers = [] ∧ ∃ v, (results fn a'.tmps).run P w' = .ok v w' ∧ (∃ v1 Φ'', Ending.returned v = .returned v1 ∧ AVRel Φ'' (fun _ => none) [] v1 (ofRes qs) ∧ Φ.le Φ'' ∧ (∀ b, b < w.heap.size → Φ'' b = Φ b) ∧ Fits Φ'' w' ∧ Below w.heap.size w w') := by
    obtain ⟨vl, e1, e2, e3⟩ := resm_run hT hs (f := fun
      | .tmp t => pure (a'.tmps.getD t undef)
      | .cell t ty => do loadVar ty (← asAddr (a'.tmps.getD t undef))) (fun t => rfl) (fun t ty => rfl) hres
    have hrest : Φ.le (frzAll Φ' β' A'.blks w') ∧ (∀ b, b < w.heap.size → frzAll Φ' β' A'.blks w' b = Φ b) ∧ Fits (frzAll Φ' β' A'.blks w') w' ∧ Below w.heap.size w w' := by
      refine ⟨Frz.le_trans hle hs.frz_le, fun b hb => ?_, hs.frz_fits, ⟨hs.kept.os, hs.kept.tape, hs.kept.output, hs.kept.size, hs.kept.block⟩⟩
      have hno : ¬ ownedBy β' A'.blks b := fun ⟨n, B, cap, h1, h2⟩ => (hs.blk n B b cap h1 h2).2.1 hb
      unfold frzAll
      rw [if_neg hno]
      exact hs.old b hb
    refine ⟨hs.dfr, ?_⟩
    match vl, qs, e1, e2, e3 with
    | [], [], e1, _, e3 =>
      refine ⟨.tuple #[], ?_, _, _, rfl, ⟨#[], rfl, rfl, fun j p h => by simp at h⟩, hrest⟩
      unfold results; rw [hr, List.mapM_toArray, bind_map_left, Sem.run_bind]; erw [e1]; rfl
    | [v], [q], e1, _, e3 =>
      obtain ⟨v', h1, h2⟩ := e3 0 q rfl
      simp at h1; subst h1
      refine ⟨v, ?_, _, _, rfl, h2, hrest⟩
      unfold results; rw [hr, List.mapM_toArray, bind_map_left, Sem.run_bind]; erw [e1]; rfl
    | v :: v2 :: vs', q :: q2 :: qs', e1, e2, e3 =>
      refine ⟨.tuple (v :: v2 :: vs').toArray, ?_, _, _, rfl, ⟨_, rfl, by simpa using e2, fun j p hp => ?_⟩, hrest⟩
      · unfold results; rw [hr, List.mapM_toArray, bind_map_left, Sem.run_bind]; erw [e1]; rfl
      · obtain ⟨v', h1, h2⟩ := e3 j p hp
        exact ⟨v', by simpa using h1, h2⟩
  rcases he with rfl | rfl
  · exact hv
  · exact hv
theorem ACalls.of_M (hT : TOK P T) {f : FuncId} {fn : Func} {c : Code} {args qs : List PV} (rs : List RV) (n : Nat) (hf : P.funcs[f]? = some fn) (hn : (fn.name == "runtime.NumGoroutine") = false) (hb : fn.body = some c)
    (hr : fn.results = (rs.map RV.var).toArray) (hnt : fn.ntmps = n) (h : ∀ G, W P G c (FinM T rs qs) (St.init n args)) : ACalls P f args (ofRes qs) where
  fn := ⟨fn, hf, hn, by rw [hb]; rfl⟩
  calls := fun Φ w vs hfit harg => by subst hnt; exact calls_mix hT rs hf hb hr hfit harg (h _)
theorem GCalls.of_M (hT : TOK P T) {γ : Nat} {cs : List Cell} {f : FuncId} {fn : Func} {c : Code} {args qs : List PV} (rs : List RV) (n : Nat) (hf : P.funcs[f]? = some fn) (hn : (fn.name == "runtime.NumGoroutine") = false) (hb : fn.body = some c)
    (hr : fn.results = (rs.map RV.var).toArray) (hnt : fn.ntmps = n) (h : ∀ G, GhostG G γ cs → W P G c (FinM T rs qs) (St.init n args)) : GCalls P γ cs f args (ofRes qs) where
  fn := ⟨fn, hf, hn, by rw [hb]; rfl⟩
  calls := fun Φ w vs hfit hgl harg => by
    subst hnt
    refine calls_mix hT rs hf hb hr hfit harg (h _ ?_)
    obtain ⟨arr, h1, h2⟩ := hgl
    obtain ⟨E, fz, hw⟩ := hfit γ arr h1
    exact ⟨(Array.getElem?_eq_some_iff.1 hw).1, arr, h1, h2⟩
end
end Lf
