/-
  Calls by their contracts; own memory that is looked at by a callee; a function's entry and exit.
-/
import Derived.Test.YtipghibmgfhmpaaGreatDoorLfOps2
set_option linter.unusedVariables false
set_option linter.unusedSimpArgs false
namespace Lf
open Go Go.RowKit

def ownedBy (β : Own) (bl : List (Nat × Blk)) (b : Nat) : Prop := ∃ n B cap, lk bl n = some B ∧ β n = some (b, cap)

open Classical in
/-- The memory that does not turn, and all that the call owns. -/
noncomputable def frzAll (Φ : Frz) (β : Own) (bl : List (Nat × Blk)) (w : World) : Frz := fun b =>
  if ownedBy β bl b then (match w.heap[b]? with | some (.cells c _ _) => some c | _ => none) else Φ b

section
variable {P : Program} {G : Ghost} {A : St} {Φ : Frz} {β : Own} {a : Act} {w : World}

theorem Sat.frz_le (hs : Sat G Φ β A a w) : Φ.le (frzAll Φ β A.blks w) := fun b c h => by
  unfold frzAll
  split
  · rename_i ho
    obtain ⟨n, B, cap, h1, h2⟩ := ho
    have := (hs.blk n B b cap h1 h2).2.2
    rw [h] at this
    cases this
  · exact h
theorem Sat.frz_fits (hs : Sat G Φ β A a w) : Fits (frzAll Φ β A.blks w) w := fun b c h => by
  unfold frzAll at h
  split at h
  · split at h
    · rename_i c' E fz hw
      obtain rfl := Option.some.inj h
      exact ⟨E, fz, hw⟩
    · cases h
  · exact hs.fits b c h
theorem Sat.frz_own (hs : Sat G Φ β A a w) {n : Nat} {B : Blk} {b cap : Nat} (h1 : lk A.blks n = some B) (h2 : β n = some (b, cap)) {cur : Array Value} {E : TypeId} {fz : Nat × Nat}
    (h3 : w.heap[b]? = some (.cells cur E fz)) : frzAll Φ β A.blks w b = some cur := by
  unfold frzAll
  rw [if_pos ⟨n, B, cap, h1, h2⟩, h3]

theorem Sat.toPV (hs : Sat G Φ β A a w) {v : Value} {x : AV} {q : PV} (h : AVRel Φ β A.blks v x) (hq : toPV A.blks x = some q) : PRel (frzAll Φ β A.blks w) v q := by
  cases x with
  | pv p => simp only [Lf.toPV, Option.some.injEq] at hq; subst hq; exact PRel.mono hs.frz_le h
  | tup l => simp [Lf.toPV] at hq
  | top => simp [Lf.toPV] at hq
  | mp n => simp [Lf.toPV] at hq
  | itr d n => simp [Lf.toPV] at hq
  | pin n b c f => simp [Lf.toPV] at hq
  | slc n =>
    obtain ⟨B, h1, hob, h2⟩ := h
    simp only [Lf.toPV, h1, Option.map_some, Option.some.injEq] at hq
    subst hq
    rcases h2 with ⟨h2, rfl⟩ | ⟨b, cap, h2, rfl⟩
    · rw [hs.vir n B h1 h2]; exact Rel.sl0
    · obtain ⟨cur, g1, g2, g3, g4, g5, g6⟩ := (hs.blk n B b cap h1 h2).1.cells hob
      refine Rel.sl b 0 _ cap B.sz B.rows (fun i j => cur[i * B.sz + j]?.getD undef) rfl g2 g5 (fun i j r c hi hj => ?_) (fun i j r c hi hj => ?_)
      · obtain ⟨v, hv, _⟩ := g6 i j r c hi hj
        rw [hs.frz_own h1 h2 g1]
        simp [hv]
      · obtain ⟨v, hv, hr⟩ := g6 i j r c hi hj
        simp only [hv, Option.getD_some]
        exact hr.mono hs.frz_le
  | addr n i off =>
    obtain ⟨b, cap, B, h2, h1, hob, rfl⟩ := h
    simp only [Lf.toPV, h1, Option.bind_some, Option.map_eq_some_iff] at hq
    obtain ⟨r, hr, rfl⟩ := hq
    obtain ⟨cur, g1, g2, g3, g4, g5, g6⟩ := (hs.blk n B b cap h1 h2).1.cells hob
    refine Rel.ptr b _ _ (fun j => cur[i * B.sz + off + j]?.getD undef) (fun j c hj => ?_) (fun j c hj => ?_)
    · rw [List.getElem?_drop] at hj
      obtain ⟨v, hv, _⟩ := g6 i (off + j) r c hr hj
      rw [hs.frz_own h1 h2 g1]
      rw [← Nat.add_assoc] at hv
      simp [hv]
    · rw [List.getElem?_drop] at hj
      obtain ⟨v, hv, hrel⟩ := g6 i (off + j) r c hr hj
      rw [← Nat.add_assoc] at hv
      simp only [hv, Option.getD_some]
      exact hrel.mono hs.frz_le

/-- A nil slice reads as an empty one. -/
inductive CSub : Cell → Cell → Prop
  | refl (c : Cell) : CSub c c
  | nil : CSub .slnil (.sl [])
def LSub : List Cell → List Cell → Prop
  | [], [] => True
  | c :: cs, d :: ds => CSub c d ∧ LSub cs ds
  | _, _ => False
def PSub : PV → PV → Prop
  | .one c, .one d => CSub c d
  | .agg cs, .agg ds => LSub cs ds
  | _, _ => False
theorem LSub.refl : ∀ l, LSub l l
  | [] => trivial
  | c :: l => ⟨.refl c, LSub.refl l⟩
theorem PSub.refl : ∀ p, PSub p p
  | .one c => CSub.refl c
  | .agg l => LSub.refl l
theorem Rel.sub {Φ : Frz} {v : Value} {c d : Cell} (h : Rel Φ v c) (hc : CSub c d) : Rel Φ v d := by
  cases hc with
  | refl => exact h
  | nil => cases h; exact .sl0
theorem RelL.sub {Φ : Frz} : ∀ {vs : List Value} {cs ds : List Cell}, RelL Φ vs cs → LSub cs ds → RelL Φ vs ds
  | [], [], [], _, _ => trivial
  | _ :: _, _ :: _, _ :: _, h, h' => ⟨h.1.sub h'.1, RelL.sub h.2 h'.2⟩
theorem PRel.sub {Φ : Frz} {v : Value} {p q : PV} (h : PRel Φ v p) (hp : PSub p q) : PRel Φ v q := by
  cases p with
  | one c => cases q with
    | one d => exact Rel.sub h hp
    | agg _ => exact hp.elim
  | agg cs => cases q with
    | one d => exact hp.elim
    | agg ds => obtain ⟨arr, h1, h2⟩ := h; exact ⟨arr, h1, h2.sub hp⟩

/-- The arguments of a call. -/
def EvL (A : St) (p : Prop) : List Operand → List PV → Prop
  | [], [] => True
  | x :: xs, q :: qs => (∃ av r, Ev A p x av ∧ toPV A.blks av = some r ∧ PSub r q) ∧ EvL A p xs qs
  | _, _ => False
def EvD (A : St) (p : Prop) : List Operand → List PV → Prop
  | [], [] => True
  | x :: xs, q :: qs => (∃ r, Ev A p x (.pv r) ∧ PSub r q) ∧ EvD A p xs qs
  | _, _ => False

theorem evl_len {p : Prop} : ∀ {xs : List Operand} {qs : List PV}, EvL A p xs qs → xs.length = qs.length
  | [], [], _ => rfl
  | _ :: _, _ :: _, h => by simp [evl_len h.2]
theorem evd_len {p : Prop} : ∀ {xs : List Operand} {qs : List PV}, EvD A p xs qs → xs.length = qs.length
  | [], [], _ => rfl
  | _ :: _, _ :: _, h => by simp [evd_len h.2]
theorem evl_args (hs : Sat G Φ β A a w) {p : Prop} (hp : p) : ∀ {xs : List Operand} {qs : List PV}, EvL A p xs qs → ∀ (j : Nat) (q : PV), qs[j]? = some q → ∃ x, xs[j]? = some x ∧ PRel (frzAll Φ β A.blks w) (a.eval x) q
  | [], [], _, j, q, h => by simp at h
  | x :: xs, q0 :: qs, ⟨⟨av, r, h1, h2, h3⟩, _⟩, 0, q, h => by
    simp at h; subst h
    exact ⟨x, rfl, (hs.toPV (hs.ev h1 hp) h2).sub h3⟩
  | x :: xs, q0 :: qs, h, j + 1, q, hq => by simpa using evl_args hs hp h.2 j q (by simpa using hq)
theorem evd_args (hs : Sat G Φ β A a w) {p : Prop} (hp : p) : ∀ {xs : List Operand} {qs : List PV}, EvD A p xs qs → ∀ (j : Nat) (q : PV), qs[j]? = some q → ∃ x, xs[j]? = some x ∧ PRel Φ (a.eval x) q
  | [], [], _, j, q, h => by simp at h
  | x :: xs, q0 :: qs, ⟨⟨r, h1, h2⟩, _⟩, 0, q, hq => by
    simp at hq; subst hq
    exact ⟨x, rfl, PRel.sub (hs.ev h1 hp) h2⟩
  | x :: xs, q0 :: qs, h, j + 1, q, hq => by simpa using evd_args hs hp h.2 j q (by simpa using hq)

theorem AVRel.ret_flat {Φ Φ' : Frz} {β : Own} {bl : List (Nat × Blk)} {v : Value} {r : AV} (h : AVRel Φ (fun _ => none) [] v r) (hf : r.flat = true) : AVRel Φ' β bl v r := by
  cases r with
  | pv p => exact PRel.flat h hf
  | tup l =>
    obtain ⟨arr, h1, h2, h3⟩ := h
    refine ⟨arr, h1, h2, fun j q hq => ?_⟩
    obtain ⟨u, h4, h5⟩ := h3 j q hq
    exact ⟨u, h4, h5.flat (List.all_eq_true.1 hf q (List.mem_of_getElem? hq))⟩
  | addr n i off => simp [AV.flat] at hf
  | slc n => simp [AV.flat] at hf
  | top => simp [AV.flat] at hf
  | mp n => simp [AV.flat] at hf
  | itr d n => simp [AV.flat] at hf
  | pin n b c f => simp [AV.flat] at hf
theorem AVRel.ret {Φ : Frz} {β : Own} {bl : List (Nat × Blk)} {v : Value} {r : AV} (h : AVRel Φ (fun _ => none) [] v r) : AVRel Φ β bl v r := by
  cases r with
  | pv p => exact h
  | tup l => exact h
  | addr n i off => obtain ⟨b, cap, B, h1, _⟩ := h; cases h1
  | slc n => obtain ⟨B, h1, _⟩ := h; cases h1
  | mp n => obtain ⟨_, _, B, _, h1, _⟩ := h; cases h1
  | itr d n => obtain ⟨_, _, B, _, _, _, h1, _⟩ := h; cases h1
  | pin n b c f => obtain ⟨B, h1, _⟩ := h; cases h1
  | top => trivial

theorem call_run {f : FuncId} {xs : List Operand} {ats : Array TypeId} {o : Oper} (ho : o.op = .call { callee := .value (.func f), args := xs.toArray, argTypes := ats }) (hf : FnOK P f) :
    (execOp a.eval o).run P w = .ok (.enter f (xs.map a.eval).toArray) w := by
  obtain ⟨fn, h1, h2, h3⟩ := hf
  have e : execOp a.eval o = (do let d ← resolve a.eval { callee := .value (.func f), args := xs.toArray, argTypes := ats } o.type; invoke d.target d.args) := by simp only [execOp, ho]
  rw [e]
  have e3 : a.eval (.func f) = .func (.func f) #[] #[] := rfl
  have h2' : ¬ fn.name = "runtime.NumGoroutine" := by simpa using h2
  have h3' : ¬ fn.body = none := by intro hx; rw [hx] at h3; cases h3
  simp only [resolve, e3, Deferred.ofValue, pure_bind, invoke, callFunc]
  simp [h1, h2', h3']

theorem P_call {o : Oper} {p : Prop} {f : FuncId} {xs : List Operand} {ats : Array TypeId} {ps : List PV} {r : AV} (ho : o.op = .call { callee := .value (.func f), args := xs.toArray, argTypes := ats })
    (hx : EvL A p xs ps) (hf : FnOK P f) (hc : p → ACalls P f ps r) (hr : r.flat = true) : PureOp P G A o p r := fun Φ β a w hs hp => by
  unfold Oper.wp
  rw [call_run ho hf]
  refine Calls.mono ((hc hp).calls (frzAll Φ β A.blks w) w _ hs.frz_fits ⟨by simp [evl_len hx], fun j q hq => ?_⟩) ?_
  · obtain ⟨x, h1, h2⟩ := evl_args hs hp hx j q hq
    exact ⟨a.eval x, by simp [h1], h2⟩
  · rintro e w' ⟨v, Φ', rfl, hv, hle, heq, hfit, hb⟩
    refine ⟨v, Φ, rfl, hv.ret_flat hr, Φ.le_refl, fun _ _ => rfl, fun b c h => ?_, hb⟩
    obtain ⟨E, fz, hw⟩ := hs.fits b c h
    exact ⟨E, fz, by rw [hb.block b (Array.getElem?_eq_some_iff.1 hw).1]; exact hw⟩

theorem P_calld {o : Oper} {p : Prop} {f : FuncId} {xs : List Operand} {ats : Array TypeId} {ps : List PV} {r : AV} (ho : o.op = .call { callee := .value (.func f), args := xs.toArray, argTypes := ats })
    (hx : EvD A p xs ps) (hf : FnOK P f) (hc : p → ACalls P f ps r) : PureOp P G A o p r := fun Φ β a w hs hp => by
  unfold Oper.wp
  rw [call_run ho hf]
  refine Calls.mono ((hc hp).calls Φ w _ hs.fits ⟨by simp [evd_len hx], fun j q hq => ?_⟩) ?_
  · obtain ⟨x, h1, h2⟩ := evd_args hs hp hx j q hq
    exact ⟨a.eval x, by simp [h1], h2⟩
  · rintro e w' ⟨v, Φ', rfl, hv, hle, heq, hfit, hb⟩
    exact ⟨v, Φ', rfl, hv.ret, hle, heq, hfit, hb⟩

/-! ### A function's entry and exit -/
def initEnv : List PV → Nat → List (Nat × (Prop × AV))
  | [], _ => []
  | q :: qs, k => (k, (True, .pv q)) :: initEnv qs (k + 1)
theorem lk_init : ∀ (args : List PV) (k t : Nat) (q : Prop) (v : AV), lk (initEnv args k) t = some (q, v) → k ≤ t ∧ q = True ∧ ∃ p, args[t - k]? = some p ∧ v = .pv p
  | [], k, t, q, v, h => by simp [initEnv, lk] at h
  | x :: xs, k, t, q, v, h => by
    rw [initEnv, lk_cons] at h
    split at h
    · rename_i e; subst e
      simp only [Option.some.injEq, Prod.mk.injEq] at h
      exact ⟨Nat.le_refl _, h.1.symm, x, by simp, h.2.symm⟩
    · rename_i e
      obtain ⟨h1, h2, p, h3, h4⟩ := lk_init xs (k + 1) t q v h
      refine ⟨by omega, h2, p, ?_, h4⟩
      have : t - k = (t - (k + 1)) + 1 := by omega
      rw [this]; simpa using h3

def St.init (n : Nat) (args : List PV) : St := { n := n, env := initEnv args 0, blks := [] }

/-- The results, slot by slot. -/
def ResL (A : St) : List Nat → List PV → Prop
  | [], [] => True
  | t :: ts, q :: qs => (∃ av r, lk A.env t = some (True, av) ∧ toPV A.blks av = some r ∧ PSub r q) ∧ ResL A ts qs
  | _, _ => False

theorem resl_get (hs : Sat G Φ β A a w) : ∀ {ts : List Nat} {qs : List PV}, ResL A ts qs → ∀ (j : Nat) (q : PV), qs[j]? = some q → ∃ t, ts[j]? = some t ∧ PRel (frzAll Φ β A.blks w) (a.tmps.getD t undef) q
  | [], [], _, j, q, h => by simp at h
  | t :: ts, q0 :: qs, ⟨⟨av, r, h1, h2, h3⟩, _⟩, 0, q, h => by
    simp at h; subst h
    exact ⟨t, rfl, (hs.toPV ((hs.env t True av h1).1 trivial) h2).sub h3⟩
  | x :: xs, q0 :: qs, h, j + 1, q, hq => by simpa using resl_get hs h.2 j q (by simpa using hq)
theorem resl_len : ∀ {ts : List Nat} {qs : List PV}, ResL A ts qs → ts.length = qs.length
  | [], [], _ => rfl
  | _ :: _, _ :: _, h => by simp [resl_len h.2]

def ofRes : List PV → AV
  | [q] => .pv q
  | l => .tup l

/-- What the end of a function must show. -/
def Fin (ts : List Nat) (qs : List PV) (e : Exit) (A : St) : Prop := (e = .normal ∨ e = .ret) ∧ ResL A ts qs

theorem Fin.ret {ts : List Nat} {qs : List PV} (h : ResL A ts qs) : Fin ts qs .ret A := ⟨.inr rfl, h⟩
theorem Fin.normal {ts : List Nat} {qs : List PV} (h : ResL A ts qs) : Fin ts qs .normal A := ⟨.inl rfl, h⟩

def resV (tmps : Array Value) : List Nat → Value
  | [t] => tmps.getD t undef
  | ts => .tuple (ts.map fun t => tmps.getD t undef).toArray
theorem mapM_tmp {f : ResultVar → Sem Value} {tmps : Array Value} (hf : ∀ t, f (.tmp t) = pure (tmps.getD t undef)) (l : List Nat) : (l.map ResultVar.tmp).toArray.mapM f = pure (l.map fun t => tmps.getD t undef).toArray := by
  rw [List.mapM_toArray]
  have : ∀ l : List Nat, (l.map ResultVar.tmp).mapM f = pure (l.map fun t => tmps.getD t undef) := by
    intro l
    induction l with
    | nil => rfl
    | cons x xs ih => simp only [List.map_cons, List.mapM_cons, hf, ih, pure_bind]
  rw [this]; rfl
theorem run_results {fn : Func} {ts : List Nat} (h : fn.results = (ts.map ResultVar.tmp).toArray) (tmps : Array Value) (w : World) :
    (results fn tmps).run P w = .ok (resV tmps ts) w := by
  unfold results
  rw [h, mapM_tmp (tmps := tmps) (fun t => rfl)]
  match ts with
  | [] => simp [resV]
  | [t] => simp [resV]
  | t :: u :: rest => simp [resV]

theorem ACalls.of_W {f : FuncId} {fn : Func} {c : Code} {args qs : List PV} (ts : List Nat) (n : Nat) (hf : P.funcs[f]? = some fn) (hn : (fn.name == "runtime.NumGoroutine") = false) (hb : fn.body = some c)
    (hr : fn.results = (ts.map ResultVar.tmp).toArray) (hnt : fn.ntmps = n) (h : ∀ G, W P G c (Fin ts qs) (St.init n args)) : ACalls P f args (ofRes qs) where
  fn := ⟨fn, hf, hn, by rw [hb]; rfl⟩
  calls := fun Φ w vs hfit harg => by
    let G : Ghost := { w0 := w, K := fun b => b < w.heap.size, F0 := Φ, lt := fun b h => h }
    subst hnt
    refine calls_of_wp hf hb (wp_mono (h G Φ (fun _ => none) _ w ?_) fun e a' w' ⟨A', Φ', β', ⟨he, hres⟩, hs, hle⟩ => ?_)
    · refine ⟨⟨rfl, rfl, rfl, Nat.le_refl _, fun b _ => rfl⟩, hfit, fun b _ => rfl, by simp [St.init]; omega, rfl, fun t q v hl => ?_, fun n B b cap h1 => by simp [St.init, lk] at h1, fun n B h1 => by simp [St.init, lk] at h1, fun n n' B B' b cap cap' h1 => by simp [St.init, lk] at h1⟩
      obtain ⟨_, rfl, p, hp, rfl⟩ := lk_init args 0 t q v hl
      refine ⟨fun _ => ?_, fun hq => (hq trivial).elim⟩
      obtain ⟨v, h1, h2⟩ := harg.2 (t - 0) p hp
      have hlt := (Array.getElem?_eq_some_iff.1 h1).1
      have : (vs ++ Array.replicate (fn.ntmps - vs.size) undef).getD t undef = v := by
        rw [Array.getD_eq_getD_getElem?, Array.getElem?_append_left (by simpa using hlt)]
        simp only [Nat.sub_zero] at h1
        rw [h1]; rfl
      show PRel Φ _ p
      rw [this]; exact h2
    · have hv : a'.defers = [] ∧ ∃ v, (results fn a'.tmps).run P w' = .ok v w' ∧ (∃ v1 Φ'', Ending.returned v = .returned v1 ∧ AVRel Φ'' (fun _ => none) [] v1 (ofRes qs) ∧ Φ.le Φ'' ∧ (∀ b, b < w.heap.size → Φ'' b = Φ b) ∧ Fits Φ'' w' ∧ Below w.heap.size w w') := by
        refine ⟨hs.dfr, _, run_results hr _ _, _, frzAll Φ' β' A'.blks w', rfl, ?_, Frz.le_trans hle hs.frz_le, fun b hb => ?_, hs.frz_fits, ⟨hs.kept.os, hs.kept.tape, hs.kept.output, hs.kept.size, hs.kept.block⟩⟩
        · have hl := resl_len hres
          match ts, qs, hres, hl with
          | [], [], _, _ => exact ⟨#[], rfl, rfl, fun j p h => by simp at h⟩
          | [t], [q], hres, _ =>
            obtain ⟨t', h1, h2⟩ := resl_get hs hres 0 q rfl
            simp at h1; subst h1
            exact h2
          | t :: t2 :: ts, q :: q2 :: qs, hres, hl =>
            refine ⟨_, rfl, by simpa using hl, fun j p hp => ?_⟩
            obtain ⟨t', h1, h2⟩ := resl_get hs hres j p hp
            exact ⟨_, by simp only [List.getElem?_toArray, List.getElem?_map, h1]; rfl, h2⟩
        · -- an old block is not owned, and no new frozen one
          have hk : G.K b := hb
          have hno : ¬ ownedBy β' A'.blks b := fun ⟨n, B, cap, h1, h2⟩ => (hs.blk n B b cap h1 h2).2.1 hk
          unfold frzAll
          rw [if_neg hno]
          exact hs.old b hk
      rcases he with rfl | rfl
      · exact hv
      · exact hv
end
end Lf
