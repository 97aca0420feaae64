/-
  A slice of an own block that is lent to a callee, which writes into it, or hands it back cut; what a callee made, as data.
-/
import Derived.Test.YtipghibmgfhmpaaGreatDoorLfOwn
import Derived.Test.YtipghibmgfhmpaaGreatDoorLfAny
set_option linter.unusedVariables false
set_option linter.unusedSimpArgs false
set_option linter.unusedSectionVars false
namespace Lf
open Go Go.RowKit
/-- a part of a block, as a slice -/
def subV (b sz off len c : Nat) : Nat → Value := fun _ => .slice (some ⟨b, off * sz, none⟩) len c
section
variable {P : Program} {G : Ghost} {A : St} {Φ : Frz} {β : Own} {a : Act} {w w' : World}
/-- THE CONTRACT OF A FUNCTION whose first parameter is a slice of its caller's own block: the block's rows before and behind the call. -/
structure SCalls (P : Program) (f : FuncId) (E sz : Nat) (rows : List (List Cell)) (off len : Nat) (args : List PV) (r : Nat → Nat → AV) (rows' : List (List Cell)) : Prop where
  fn : FnOK P f
  calls : ∀ (Φ : Frz) (w : World) (vs : Array Value) (b cap : Nat), Fits Φ w → vs[0]? = some (.slice (some ⟨b, off * sz, none⟩) len (cap - off)) → vs.size = args.length + 1 → (∀ (j : Nat) (p : PV), args[j]? = some p → ∃ v, vs[j + 1]? = some v ∧ PRel Φ v p) →
    Φ b = none → BlkRel Φ w b cap ⟨E, sz, rows⟩ →
    Calls P f vs w (fun e w' => ∃ v Φ', e = .returned v ∧ AVRel Φ' (fun _ => none) [] v (r b cap) ∧ Φ.le Φ' ∧ (∀ c, c < w.heap.size → Φ' c = Φ c) ∧ Fits Φ' w' ∧ BlkRel Φ' w' b cap ⟨E, sz, rows'⟩ ∧ BelowX b w.heap.size w w')
def St.initS (n b cap E sz : Nat) (rows : List (List Cell)) (off len : Nat) (args : List PV) : St := { n := n, env := (0, (True, .pin 0 b cap (subV b sz off len (cap - off)))) :: initEnv args 1, blks := [(0, ⟨E, sz, rows⟩)] }
/-- the end of such a function -/
def FinS (b cap E sz : Nat) (f : Nat → Value) (rows' : List (List Cell)) (ts : List Nat) (qs : List PV) (e : Exit) (A : St) : Prop :=
  (e = .normal ∨ e = .ret) ∧ ∃ m B, lk A.blks m = some B ∧ lk (frzX m A.blks A.env) 0 = some (True, .pin m b cap f) ∧ B = ⟨E, sz, rows'⟩ ∧ ResD { A with env := frzX m A.blks A.env, blks := [(m, B)] } ts qs
theorem FinS.ret {b cap E sz : Nat} {f : Nat → Value} {rows' : List (List Cell)} {ts : List Nat} {qs : List PV} (m : Nat) {B : Blk} (h1 : lk A.blks m = some B) (h2 : lk (frzX m A.blks A.env) 0 = some (True, .pin m b cap f)) (hB : B = ⟨E, sz, rows'⟩) (h : ResD { A with env := frzX m A.blks A.env, blks := [(m, B)] } ts qs) : FinS b cap E sz f rows' ts qs .ret A := ⟨.inr rfl, m, B, h1, h2, hB, h⟩
theorem FinS.normal {b cap E sz : Nat} {f : Nat → Value} {rows' : List (List Cell)} {ts : List Nat} {qs : List PV} (m : Nat) {B : Blk} (h1 : lk A.blks m = some B) (h2 : lk (frzX m A.blks A.env) 0 = some (True, .pin m b cap f)) (hB : B = ⟨E, sz, rows'⟩) (h : ResD { A with env := frzX m A.blks A.env, blks := [(m, B)] } ts qs) : FinS b cap E sz f rows' ts qs .normal A := ⟨.inl rfl, m, B, h1, h2, hB, h⟩
theorem SCalls.of_W {f : FuncId} {fn : Func} {c : Code} {E sz off len : Nat} {rows rows' : List (List Cell)} {args : List PV} {qs : Nat → Nat → List PV} (ts : List Nat) (n : Nat) (hf : P.funcs[f]? = some fn) (hn : (fn.name == "runtime.NumGoroutine") = false) (hb : fn.body = some c)
    (hr : fn.results = (ts.map ResultVar.tmp).toArray) (hnt : fn.ntmps = n) (hE : Nat.ble mapTag E = false) (h : ∀ G b cap, W P G c (FinS b cap E sz (subV b sz off len (cap - off)) rows' ts (qs b cap)) (St.initS n b cap E sz rows off len args)) : SCalls P f E sz rows off len args (fun b cap => ofRes (qs b cap)) rows' where
  fn := ⟨fn, hf, hn, by rw [hb]; rfl⟩
  calls := fun Φ w vs b cap hfit hv0 hsz harg hΦ hblk => by
    subst hnt
    have hlt := hblk.lt
    have hs0 : Sat { w0 := w, K := fun c => c < w.heap.size ∧ c ≠ b, F0 := Φ, lt := fun c h => h.1 } Φ (fun n => if n = 0 then some (b, cap) else none) (St.initS fn.ntmps b cap E sz rows off len args) { tmps := vs ++ Array.replicate (fn.ntmps - vs.size) undef, defers := [] } w := by
      have hget : ∀ (t : Nat) (v : Value), vs[t]? = some v → (vs ++ Array.replicate (fn.ntmps - vs.size) undef).getD t undef = v := fun t v h1 => by
        have hlt := (Array.getElem?_eq_some_iff.1 h1).1
        rw [Array.getD_eq_getD_getElem?, Array.getElem?_append_left (by simpa using hlt), h1]; rfl
      refine ⟨⟨rfl, rfl, rfl, Nat.le_refl _, fun b _ => rfl⟩, hfit, fun b _ => rfl, by simp [St.initS]; omega, rfl, fun t q v hl => ?_, fun n B b' cap' h1 h2 => ?_, fun n B h1 h2 => ?_, fun n n' B B' b' c1 c2 h1 h2 h3 h4 => ?_⟩
      · simp only [St.initS] at hl
        rw [lk_cons] at hl
        split at hl
        · rename_i e; subst e
          simp only [Option.some.injEq, Prod.mk.injEq] at hl
          obtain ⟨rfl, rfl⟩ := hl
          refine ⟨fun _ => ⟨⟨E, sz, rows⟩, by simp, rfl, ob_lt hE, ?_⟩, fun hq => (hq trivial).elim⟩
          rw [hget 0 _ hv0]; rfl
        · rename_i e
          obtain ⟨h1, rfl, p, hp, rfl⟩ := lk_init args 1 t q v hl
          refine ⟨fun _ => ?_, fun hq => (hq trivial).elim⟩
          obtain ⟨v, h2, h3⟩ := harg (t - 1) p hp
          rw [show t - 1 + 1 = t by omega] at h2
          show PRel Φ _ p
          rw [hget t v h2]; exact h3
      · simp only [St.initS] at h1
        rw [lk_cons] at h1
        split at h1
        · rename_i e; subst e
          obtain rfl := Option.some.inj h1
          simp at h2
          obtain ⟨rfl, rfl⟩ := h2
          exact ⟨hblk, fun h => h.2 rfl, hΦ⟩
        · simp [lk] at h1
      · simp only [St.initS] at h1
        rw [lk_cons] at h1
        split at h1
        · rename_i e; subst e; simp at h2
        · simp [lk] at h1
      · split at h3
        · rename_i e; split at h4
          · rename_i e'; rw [e, e']
          · cases h4
        · cases h3
    refine calls_of_wp hf hb (wp_mono (h _ b cap Φ _ _ w hs0) fun e a' w' ⟨A', Φ1, β1, ⟨he, m, B, hm1, hm2, hB, hres⟩, hs1, hle1⟩ => ?_)
    obtain ⟨Φ', β', hle2, hs⟩ := Le.freezeX hm1 _ Φ1 β1 a' w' hs1
    have hle := Frz.le_trans hle1 hle2
    obtain ⟨B0, k1, k2, k3, _⟩ := (hs.env 0 True _ hm2).1 trivial
    rw [lk_cons, if_pos rfl] at k2
    obtain rfl := Option.some.inj k2
    have hbl := hs.blk m B b cap (by rw [lk_cons, if_pos rfl]) k1
    subst hB
    have hv : a'.defers = [] ∧ ∃ v, (results fn a'.tmps).run P w' = .ok v w' ∧ (∃ v1 Φ'', Ending.returned v = .returned v1 ∧ AVRel Φ'' (fun _ => none) [] v1 (ofRes (qs b cap)) ∧ Φ.le Φ'' ∧ (∀ c, c < w.heap.size → Φ'' c = Φ c) ∧ Fits Φ'' w' ∧ BlkRel Φ'' w' b cap ⟨E, sz, rows'⟩ ∧ BelowX b w.heap.size w w') := by
      refine ⟨hs.dfr, _, run_results hr _ _, _, Φ', rfl, ?_, hle, fun c hc => ?_, hs.fits, hbl.1, ⟨hs.kept.os, hs.kept.tape, hs.kept.output, hs.kept.size, fun c h1 h2 => hs.kept.block c ⟨h1, h2⟩⟩⟩
      · have hl := resd_len hres
        generalize qs b cap = qs at hres hl ⊢
        match ts, qs, hres, hl with
        | [], [], _, _ => exact ⟨#[], rfl, rfl, fun j p h => by simp at h⟩
        | [t], [q], hres, _ =>
          obtain ⟨t', h1, h2⟩ := resd_get hs hres 0 q rfl
          simp at h1; subst h1
          exact h2
        | t :: t2 :: ts, q :: q2 :: qs, hres, hl =>
          refine ⟨_, rfl, by simpa using hl, fun j p hp => ?_⟩
          obtain ⟨t', h1, h2⟩ := resd_get hs hres j p hp
          exact ⟨_, by simp only [List.getElem?_toArray, List.getElem?_map, h1]; rfl, h2⟩
      · by_cases e : c = b
        · subst e; rw [hΦ]; exact hbl.2.2
        · exact hs.old c ⟨hc, e⟩
    rcases he with rfl | rfl
    · exact hv
    · exact hv
/-- an own block, cut at its end -/
theorem AVRel.other {m : Nat} {bl bl' : List (Nat × Blk)} {v : Value} {x : AV} (h : AVRel Φ β bl v x) (hm : x.ment m = false) (hl : ∀ k, k ≠ m → lk bl' k = lk bl k) : AVRel Φ β bl' v x := by
  cases x with
  | pv p => exact h
  | tup l => exact h
  | top => trivial
  | addr n i off =>
    have e : n ≠ m := fun e => by subst e; simp [AV.ment] at hm
    obtain ⟨b', cap', B', g1, g2, g3⟩ := h
    exact ⟨b', cap', B', g1, by rw [hl n e]; exact g2, g3⟩
  | slc n =>
    have e : n ≠ m := fun e => by subst e; simp [AV.ment] at hm
    obtain ⟨B', g2, g3⟩ := h
    exact ⟨B', by rw [hl n e]; exact g2, g3⟩
  | pin n b c f =>
    have e : n ≠ m := fun e => by subst e; simp [AV.ment] at hm
    obtain ⟨B', g1, g2, g3⟩ := h
    exact ⟨B', g1, by rw [hl n e]; exact g2, g3⟩
  | mp n =>
    have e : n ≠ m := fun e => by subst e; simp [AV.ment] at hm
    obtain ⟨b', cap', B', g1, g2, g3⟩ := h
    exact ⟨b', cap', B', g1, by rw [hl n e]; exact g2, g3⟩
  | itr d n =>
    have e : n ≠ m := fun e => by subst e; simp [AV.ment] at hm
    have e' : d ≠ m := fun e => by subst e; simp [AV.ment] at hm
    obtain ⟨b', cap', B', M, c, g1, g2, g3, g4, g5, g6⟩ := h
    exact ⟨b', cap', B', M, c, g1, by rw [hl d e']; exact g2, g3, g4, by rw [hl n e]; exact g5, g6⟩
theorem Sat.cutB (hs : Sat G Φ β A a w) {m : Nat} {B : Blk} (h1 : lk A.blks m = some B) (hob : B.ob = false) (n : Nat) : Sat G Φ β { A with env := fgt m A.env, blks := (m, { B with rows := B.rows.take n }) :: A.blks } a w := by
  have hl : ∀ k, k ≠ m → lk ((m, { B with rows := B.rows.take n }) :: A.blks) k = lk A.blks k := fun k hk => by rw [lk_cons, if_neg (Ne.symm hk)]
  refine ⟨hs.kept, hs.fits, hs.old, hs.siz, hs.dfr, fun t q v h => ?_, fun k C b cap k1 k2 => ?_, fun k C k1 k2 => ?_, fun k k' C C' b c c' k1 k2 k3 k4 => ?_⟩
  · obtain ⟨v', g1, rfl⟩ := lk_fgt _ _ _ _ _ h
    refine ⟨fun hq => ?_, (hs.env t q v' g1).2⟩
    cases hm : v'.ment m with
    | true => trivial
    | false => exact ((hs.env t q v' g1).1 hq).other hm hl
  · rw [lk_cons] at k1
    split at k1
    · rename_i e; subst e
      obtain rfl := Option.some.inj k1
      obtain ⟨q1, q2, q3⟩ := hs.blk m B b cap h1 k2
      obtain ⟨cur, g1, g2, g3, g4, g5, g6⟩ := q1.cells hob
      refine ⟨.inl ⟨hob, cur, g1, by simp only [List.length_take]; omega, g3, g4, fun r hr => g5 r (List.mem_of_mem_take hr), fun i j r x hi hj => g6 i j r x ?_ hj⟩, q2, q3⟩
      simp only [List.getElem?_take] at hi
      split at hi
      · exact hi
      · cases hi
    · exact hs.blk k C b cap k1 k2
  · rw [lk_cons] at k1
    split at k1
    · rename_i e; subst e
      obtain rfl := Option.some.inj k1
      simp [hs.vir m B h1 k2]
    · exact hs.vir k C k1 k2
  · have hk : ∀ k C, lk ((m, { B with rows := B.rows.take n }) :: A.blks) k = some C → ∃ C0, lk A.blks k = some C0 := fun k C h => by
      rw [lk_cons] at h
      split at h
      · rename_i e; subst e; exact ⟨B, h1⟩
      · exact ⟨C, h⟩
    obtain ⟨C0, e0⟩ := hk k C k1
    obtain ⟨C1, e1⟩ := hk k' C' k2
    exact hs.inj k k' C0 C1 b c c' e0 e1 k3 k4
/-- a call that hands the whole slice on, and has it back, cut -/
theorem E_callcut {o : Oper} {f : FuncId} {x : Operand} {ats : Array TypeId} {E sz d m n : Nat} {rows : List (List Cell)} (ho : o.op = .call { callee := .value (.func f), args := #[x], argTypes := ats }) (hd : o.dst = some d) (hn : d < A.n)
    (hx0 : Ev A True x (.slc m)) (hl : lk A.blks m = some ⟨E, sz, rows⟩) (hne : rows ≠ []) (hle : n ≤ rows.length) (hc : SCalls P f E sz rows 0 rows.length [] (fun b cap => .pv (.one (.sla b n cap))) rows) :
    EffOp P G A o ({ A with env := fgt m A.env, blks := (m, ⟨E, sz, rows.take n⟩) :: A.blks }.set d True (.slc m)) := fun Φ β a w hs => by
  have ho' : o.op = .call { callee := .value (.func f), args := [x].toArray, argTypes := ats } := ho
  unfold Oper.wp
  rw [call_run ho' hc.fn]
  obtain ⟨B, h2, hob, h3⟩ := hs.ev hx0 trivial
  rw [hl] at h2
  obtain rfl := Option.some.inj h2
  rcases h3 with ⟨h3, h4⟩ | ⟨b, cap, h3, h4⟩
  · exact absurd (hs.vir m _ hl h3) hne
  obtain ⟨g1, g2, g3⟩ := hs.blk m _ b cap hl h3
  refine Calls.mono (hc.calls Φ w _ b cap hs.fits (by simp [h4]) (by simp) (fun j q hq => by simp at hq) g3 g1) ?_
  rintro e w' ⟨v, Φ', rfl, hv, hle', heq, hfit, hbl, hb⟩
  have hs1 := hs.lend (rows := rows) hl h3 hob rfl hle' heq hfit hbl hb
  have hl1 : lk ((m, (⟨E, sz, rows⟩ : Blk)) :: A.blks) m = some ⟨E, sz, rows⟩ := by rw [lk_cons, if_pos rfl]
  have hs2 := hs1.cutB (m := m) hl1 hob n
  show ∃ Φ'' β', Sat G Φ'' β' _ (a.put o.dst v) w' ∧ Φ.le Φ''
  rw [hd]
  refine ⟨Φ', β, ?_, hle'⟩
  have hs3 : Sat G Φ' β { A with env := fgt m A.env, blks := (m, ⟨E, sz, rows.take n⟩) :: A.blks } a w' := by
    refine ⟨hs2.kept, hs2.fits, hs2.old, hs2.siz, hs2.dfr, fun t q v h => ?_, fun k C b' c' k1 k2 => hs2.blk k C b' c' ?_ k2, fun k C k1 k2 => hs2.vir k C ?_ k2, fun k k' C C' b' c c' k1 k2 k3 k4 => hs2.inj k k' C C' b' c c' ?_ ?_ k3 k4⟩
    · have h5 := hs2.env t q v h
      exact ⟨fun hq => (h5.1 hq).congr fun k => by simp only [lk_cons]; split <;> rfl, h5.2⟩
    all_goals (simp only [lk_cons] at *; split <;> simp_all)
  refine hs3.put (v := .slc m) hn ?_
  refine ⟨⟨E, sz, rows.take n⟩, by rw [lk_cons, if_pos rfl], hob, .inr ⟨b, cap, h3, ?_⟩⟩
  have : Rel Φ' v (.sla b n cap) := hv
  rw [rel_sla this]
  simp [List.length_take, Nat.min_eq_left hle]
/-- a call that lends a part of an own block -/
theorem E_callsub {o : Oper} {f : FuncId} {x : Operand} {xs : List Operand} {ats : Array TypeId} {ps : List PV} {E sz off len d m b c : Nat} {g : Nat → Value} {rows rows' : List (List Cell)} {r : AV} (ho : o.op = .call { callee := .value (.func f), args := (x :: xs).toArray, argTypes := ats }) (hd : o.dst = some d) (hn : d < A.n)
    (hx0 : Ev A True x (.pin m b c g)) (hg : g = subV b sz off len (c - off)) (hl : lk A.blks m = some ⟨E, sz, rows⟩) (hx : EvD A True xs ps) (hlen : rows'.length = rows.length) (hc : SCalls P f E sz rows off len ps (fun _ _ => r) rows') : EffOp P G A o ({ A with blks := (m, ⟨E, sz, rows'⟩) :: A.blks }.set d True r) := fun Φ β a w hs => by
  unfold Oper.wp
  rw [call_run ho hc.fn]
  obtain ⟨B, h1, h2, hob, h3⟩ := hs.ev hx0 trivial
  rw [hl] at h2
  obtain rfl := Option.some.inj h2
  obtain ⟨g1, g2, g3⟩ := hs.blk m _ b c hl h1
  rw [hg] at h3
  refine Calls.mono (hc.calls Φ w _ b c hs.fits (by simp [h3, subV]) (by simp [evd_len hx]) (fun j q hq => ?_) g3 g1) ?_
  · obtain ⟨y, k1, k2⟩ := evd_args hs trivial hx j q hq
    exact ⟨a.eval y, by simp [k1], k2⟩
  · rintro e w' ⟨v, Φ', rfl, hv, hle, heq, hfit, hbl, hb⟩
    have hs' := hs.lend (rows := rows') hl h1 hob hlen hle heq hfit hbl hb
    show ∃ Φ'' β', Sat G Φ'' β' _ (a.put o.dst v) w' ∧ Φ.le Φ''
    rw [hd]
    exact ⟨Φ', β, hs'.put hn hv.ret, hle⟩
theorem Le.unplace {t n b c : Nat} (ht : lk A.env t = some (True, .pin n b c (slcV b c))) : Le A (A.set t True (.slc n)) := fun G Φ β a w hs => by
  refine ⟨Φ, β, Φ.le_refl, hs.kept, hs.fits, hs.old, hs.siz, hs.dfr, fun s q v' h => ?_, hs.blk, hs.vir, hs.inj⟩
  simp only [St.set] at h
  rw [lk_cons] at h
  split at h
  · rename_i e; subst e
    simp only [Option.some.injEq, Prod.mk.injEq] at h
    obtain ⟨rfl, rfl⟩ := h
    refine ⟨fun _ => ?_, fun hq => (hq trivial).elim⟩
    obtain ⟨B, h1, h2, h3, h4⟩ := (hs.env t True _ ht).1 trivial
    exact ⟨B, h2, h3, .inr ⟨b, c, h1, h4⟩⟩
  · exact hs.env s q v' h
/-- what a callee made, as data -/
theorem OCalls.data {f : FuncId} {args : List PV} {E sz : Nat} {rows : List (List Cell)} (h : OCalls P f args E sz rows) (hE : Nat.ble mapTag E = false) : ACalls P f args (.pv (.one (.sl rows))) where
  fn := h.fn
  calls := fun Φ w vs hfit harg => by
    refine Calls.mono (h.calls Φ w vs hfit harg) ?_
    rintro e w' ⟨v, Φ', rfl, hv, hle, heq, hf, hb⟩
    rcases hv with ⟨rfl, rfl⟩ | ⟨b, cap, rfl, hbs, hbl, hΦ⟩
    · exact ⟨_, Φ', rfl, Rel.sl0, hle, heq, hf, hb⟩
    · obtain ⟨cur, g1, g2, g3, g4, g5, g6⟩ := hbl.cells hE
      have hle2 : Φ'.le (fun c => if c = b then some cur else Φ' c) := fun c x hc => by
        by_cases e : c = b
        · subst e; rw [hΦ] at hc; cases hc
        · simp [e, hc]
      refine ⟨_, fun c => if c = b then some cur else Φ' c, rfl, ?_, Frz.le_trans hle hle2, fun c hc => ?_, fun c x hc => ?_, hb⟩
      · show Rel _ _ _
        refine .sl b 0 rows.length cap sz rows (fun i j => (cur[i * sz + j]?).getD undef) rfl g2 g5 (fun i j r c hi hj => ?_) (fun i j r c hi hj => ?_)
        · obtain ⟨v, q1, q2⟩ := g6 i j r c hi hj
          simp [q1]
        · obtain ⟨v, q1, q2⟩ := g6 i j r c hi hj
          rw [q1]; exact q2.mono hle2
      · show (if c = b then some cur else Φ' c) = Φ c
        rw [if_neg (by omega)]; exact heq c hc
      · simp only at hc
        split at hc
        · rename_i e; subst e; cases hc; exact ⟨_, _, g1⟩
        · exact hf c x hc
end
section
variable {P : Program} {G : Ghost} {ops : Array Oper} {rest : List Oper} {Q : St → Prop} {n0 : Nat} {env : List (Nat × (Prop × AV))} {bl : List (Nat × Blk)} {p : Prop} {dst : Option Nat} {ty : TypeId} {pos : String} {after : Array Edge} {gd : Option (Nat × Bool)}
theorem S_callcut {d m n E sz : Nat} {rows : List (List Cell)} {f : FuncId} {x : Operand} {ats : Array TypeId} (hc : SCalls P f E sz rows 0 rows.length [] (fun b cap => .pv (.one (.sla b n cap))) rows) (hx0 : Ev (St.mk n0 env bl) True x (.slc m)) (hl : lk bl m = some ⟨E, sz, rows⟩) (hne : rows ≠ []) (hle : n ≤ rows.length) (hn : Nat.blt d n0 = true)
    (h : RG P G ops rest Q (St.mk n0 ((d, (True, .slc m)) :: fgt m env) ((m, ⟨E, sz, rows.take n⟩) :: bl))) : RG P G ops (⟨some d, .call ⟨.value (.func f), #[x], ats⟩, ty, pos, after, none⟩ :: rest) Q (St.mk n0 env bl) :=
  RG.eff rfl (E_callcut rfl rfl (blt_lt hn) hx0 hl hne hle hc) h
theorem S_callsub {d m b c E sz off len : Nat} {g : Nat → Value} {rows rows' : List (List Cell)} {f : FuncId} {x : Operand} {xs : List Operand} {ats : Array TypeId} {ps : List PV} {r : AV} (hc : SCalls P f E sz rows off len ps (fun _ _ => r) rows') (hx0 : Ev (St.mk n0 env bl) True x (.pin m b c g)) (hg : g = subV b sz off len (c - off)) (hl : lk bl m = some ⟨E, sz, rows⟩) (hn : Nat.blt d n0 = true) (hx : EvD (St.mk n0 env bl) True xs ps) (hlen : rows'.length = rows.length)
    (h : RG P G ops rest Q (St.mk n0 ((d, (True, r)) :: env) ((m, ⟨E, sz, rows'⟩) :: bl))) : RG P G ops (⟨some d, .call ⟨.value (.func f), (x :: xs).toArray, ats⟩, ty, pos, after, none⟩ :: rest) Q (St.mk n0 env bl) :=
  RG.eff rfl (E_callsub rfl rfl (blt_lt hn) hx0 hg hl hx hlen hc) h
end
end Lf
