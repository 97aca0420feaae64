/-
  A block that is lent to a callee: pointers that came in and are written. Slices of data, cut.
-/
import Derived.Test.YtipghibmgfhmpaaGreatDoorLfEqA
set_option linter.unusedVariables false
set_option linter.unusedSimpArgs false
set_option linter.unusedSectionVars false
namespace Lf
open Go Go.RowKit
/-- the world behind a call that may turn block b -/
structure BelowX (b n : Nat) (w w' : World) : Prop where
  os : w'.os = w.os
  tape : w'.tape = w.tape
  output : w'.output = w.output
  size : w.heap.size ≤ w'.heap.size
  block : ∀ c, c < n → c ≠ b → w'.heap[c]? = w.heap[c]?
def ptrV (b : Nat) : Nat → Value := fun _ => .pointer (some ⟨b, 0, none⟩)
section
variable {P : Program} {G : Ghost} {A : St} {Φ : Frz} {β : Own} {a : Act} {w w' : World}
/-- THE CONTRACT OF A FUNCTION whose first parameter points to a block of its caller's: what the block held, and what it holds behind the call. -/
structure BCalls (P : Program) (f : FuncId) (E sz : Nat) (row : List Cell) (args : List PV) (r : AV) (row' : List Cell) : Prop where
  fn : FnOK P f
  calls : ∀ (Φ : Frz) (w : World) (vs : Array Value) (b cap : Nat), Fits Φ w → vs[0]? = some (.pointer (some ⟨b, 0, none⟩)) → vs.size = args.length + 1 → (∀ (j : Nat) (p : PV), args[j]? = some p → ∃ v, vs[j + 1]? = some v ∧ PRel Φ v p) →
    Φ b = none → BlkRel Φ w b cap ⟨E, sz, [row]⟩ →
    Calls P f vs w (fun e w' => ∃ v Φ', e = .returned v ∧ AVRel Φ' (fun _ => none) [] v r ∧ Φ.le Φ' ∧ (∀ c, c < w.heap.size → Φ' c = Φ c) ∧ Fits Φ' w' ∧ BlkRel Φ' w' b cap ⟨E, sz, [row']⟩ ∧ BelowX b w.heap.size w w')
def St.initB (n b cap E sz : Nat) (row : List Cell) (args : List PV) : St := { n := n, env := (0, (True, .pin 0 b cap (ptrV b))) :: initEnv args 1, blks := [(0, ⟨E, sz, [row]⟩)] }
/-- all own blocks but m become memory that does not turn any more -/
def dropB (m : Nat) (bl : List (Nat × Blk)) : List (Nat × Blk) := bl.filter fun x => !Nat.beq x.1 m
theorem lk_dropB (m : Nat) : ∀ (bl : List (Nat × Blk)) (k : Nat), lk (dropB m bl) k = if k = m then none else lk bl k
  | [], k => by simp [dropB, lk]
  | (t, B) :: r, k => by
    have ih := lk_dropB m r k
    simp only [dropB, List.filter_cons] at ih ⊢
    cases hb : Nat.beq t m with
    | true =>
      have e : t = m := Nat.eq_of_beq_eq_true hb
      simp only [Bool.not_true, Bool.false_eq_true, if_false]
      rw [ih, lk_cons]
      by_cases h : k = m
      · simp [h]
      · rw [if_neg h, if_neg h, if_neg (by omega)]
    | false =>
      have e : t ≠ m := fun e => by subst e; simp at hb
      simp only [Bool.not_false, if_true]
      rw [lk_cons, lk_cons, ih]
      by_cases h : t = k
      · rw [if_pos h, if_pos h, if_neg (by omega)]
      · rw [if_neg h, if_neg h]
def frzVX (m : Nat) (bl : List (Nat × Blk)) : AV → AV
  | .itr d n => .top
  | .mp n => .top
  | v => bif v.ment m then v else frzV bl v
def frzX (m : Nat) (bl : List (Nat × Blk)) : List (Nat × (Prop × AV)) → List (Nat × (Prop × AV))
  | [] => []
  | (t, (q, v)) :: r => (t, (q, frzVX m bl v)) :: frzX m bl r
theorem lk_frzX (m : Nat) (bl : List (Nat × Blk)) : ∀ (env : List (Nat × (Prop × AV))) (t : Nat) (q : Prop) (v : AV), lk (frzX m bl env) t = some (q, v) → ∃ v', lk env t = some (q, v') ∧ v = frzVX m bl v'
  | [], t, q, v, h => by simp [frzX, lk] at h
  | (s, (q0, v0)) :: r, t, q, v, h => by
    rw [frzX, lk_cons] at h
    rw [lk_cons]
    split at h
    · rename_i e
      simp only [Option.some.injEq, Prod.mk.injEq] at h
      rw [if_pos e]
      exact ⟨v0, by rw [h.1], h.2.symm⟩
    · rename_i e
      rw [if_neg e]
      exact lk_frzX m bl r t q v h
theorem toPV_drop {m : Nat} {bl : List (Nat × Blk)} {v : AV} (h : v.ment m = false) : toPV (dropB m bl) v = toPV bl v := by
  cases v with
  | slc n =>
    have e : n ≠ m := fun e => by subst e; simp [AV.ment] at h
    simp only [toPV, lk_dropB, if_neg e]
  | addr n i off =>
    have e : n ≠ m := fun e => by subst e; simp [AV.ment] at h
    simp only [toPV, lk_dropB, if_neg e]
  | _ => rfl
theorem AVRel.drop {m : Nat} {v : Value} {x : AV} (h : AVRel Φ β A.blks v x) (hm : x.ment m = false) : AVRel Φ β (dropB m A.blks) v x := by
  have hl : ∀ k, k ≠ m → lk (dropB m A.blks) k = lk A.blks k := fun k hk => by rw [lk_dropB, if_neg hk]
  cases x with
  | pv p => exact h
  | tup l => exact h
  | top => trivial
  | addr n i off =>
    have e : n ≠ m := fun e => by subst e; simp [AV.ment] at hm
    obtain ⟨b', cap', B', g1, g2, g3⟩ := h
    exact ⟨b', cap', B', g1, by rw [hl n e]; exact g2, g3⟩
  | slc n =>
    have e : n ≠ m := fun e => by subst e; simp [AV.ment] at hm
    obtain ⟨B', g2, g3⟩ := h
    exact ⟨B', by rw [hl n e]; exact g2, g3⟩
  | pin n b c f =>
    have e : n ≠ m := fun e => by subst e; simp [AV.ment] at hm
    obtain ⟨B', g1, g2, g3⟩ := h
    exact ⟨B', g1, by rw [hl n e]; exact g2, g3⟩
  | mp n =>
    have e : n ≠ m := fun e => by subst e; simp [AV.ment] at hm
    obtain ⟨b', cap', B', g1, g2, g3⟩ := h
    exact ⟨b', cap', B', g1, by rw [hl n e]; exact g2, g3⟩
  | itr d n =>
    have e : n ≠ m := fun e => by subst e; simp [AV.ment] at hm
    have e' : d ≠ m := fun e => by subst e; simp [AV.ment] at hm
    obtain ⟨b', cap', B', M, c, g1, g2, g3, g4, g5, g6⟩ := h
    exact ⟨b', cap', B', M, c, g1, by rw [hl d e']; exact g2, g3, g4, by rw [hl n e]; exact g5, g6⟩
theorem freezeX_sat {m : Nat} {B : Blk} (hm : lk A.blks m = some B) (hs : Sat G Φ β A a w) : ∃ Φ' β', Φ.le Φ' ∧ Sat G Φ' β' { A with env := frzX m A.blks A.env, blks := [(m, B)] } a w ∧ β' m = β m ∧
    ∀ (v : Value) (n : Nat) (C : Blk) (q : PV), lk A.blks n = some C → n ≠ m → AVRel Φ β A.blks v (.slc n) → toPV A.blks (.slc n) = some q → PRel Φ' v q := by
  have hs1 : Sat G Φ β ⟨A.n, [], dropB m A.blks⟩ a w := by
    refine ⟨hs.kept, hs.fits, hs.old, hs.siz, hs.dfr, fun t q v h => by simp [lk] at h, fun n C b cap h1 h2 => ?_, fun n C h1 h2 => ?_, fun n n' C C' b c c' h1 h2 h3 h4 => ?_⟩
    · simp only [lk_dropB] at h1; split at h1
      · cases h1
      · exact hs.blk n C b cap h1 h2
    · simp only [lk_dropB] at h1; split at h1
      · cases h1
      · exact hs.vir n C h1 h2
    · simp only [lk_dropB] at h1 h2; split at h1
      · cases h1
      · split at h2
        · cases h2
        · exact hs.inj n n' C C' b c c' h1 h2 h3 h4
  have hno : ∀ b cap, β m = some (b, cap) → ¬ ownedBy β (dropB m A.blks) b := fun b cap h1 ⟨n, C, c', k1, k2⟩ => by
    rw [lk_dropB] at k1; split at k1
    · cases k1
    · rename_i e; exact e (hs.inj n m C B b c' cap k1 hm k2 h1)
  have hs1' : Sat G Φ β ⟨A.n, [], dropB m A.blks⟩ a w := hs1
  refine ⟨frzAll Φ β (dropB m A.blks) w, fun k => if k = m then β m else none, hs1.frz_le, ⟨hs.kept, hs1.frz_fits, fun b hk => ?_, hs.siz, hs.dfr, fun t q v h => ?_, fun n C b cap h1 h2 => ?_, fun n C h1 h2 => ?_, fun n n' C C' b c c' h1 h2 h3 h4 => ?_⟩, by simp, fun v n C q k1 k2 k3 k4 => ?_⟩
  · have hn : ¬ ownedBy β (dropB m A.blks) b := fun ⟨n, C, cap, h1, h2⟩ => (hs1.blk n C b cap h1 h2).2.1 hk
    unfold frzAll
    rw [if_neg hn]
    exact hs.old b hk
  · obtain ⟨v', h1, rfl⟩ := lk_frzX _ _ _ _ _ _ h
    refine ⟨fun hq => ?_, (hs.env t q v' h1).2⟩
    have h3 := (hs.env t q v' h1).1 hq
    have frz : v'.ment m = false → AVRel (frzAll Φ β (dropB m A.blks) w) (fun k => if k = m then β m else none) [(m, B)] (a.tmps.getD t undef) (frzV A.blks v') := fun hmt => by
      have h5 := h3.drop hmt
      have e : frzV A.blks v' = frzV (dropB m A.blks) v' := by
        cases v' <;> simp only [frzV, toPV_drop hmt]
      rw [e]
      cases v' with
      | tup l => exact h3.mono hs1.frz_le
      | pv p => exact PRel.mono hs1.frz_le h3
      | top => trivial
      | mp n => trivial
      | itr d n => trivial
      | pin n b c f => trivial
      | addr n i off =>
        simp only [frzV]
        cases hq' : toPV (dropB m A.blks) (.addr n i off) with
        | none => trivial
        | some p => exact hs1.toPV h5 hq'
      | slc n =>
        simp only [frzV]
        cases hq' : toPV (dropB m A.blks) (.slc n) with
        | none => trivial
        | some p => exact hs1.toPV h5 hq'
    cases v' with
    | mp n => trivial
    | itr d n => trivial
    | tup l => exact frz rfl
    | pv p => exact frz rfl
    | top => exact frz rfl
    | addr n i off =>
      simp only [frzVX]
      cases hmt : (AV.addr n i off).ment m with
      | false => exact frz hmt
      | true =>
        have e : n = m := Nat.eq_of_beq_eq_true hmt
        subst e
        obtain ⟨b', cap', B', g1, g2, g3⟩ := h3
        rw [hm] at g2; obtain rfl := Option.some.inj g2
        exact ⟨b', cap', B, by simp [g1], by rw [lk_cons, if_pos rfl], g3⟩
    | slc n =>
      simp only [frzVX]
      cases hmt : (AV.slc n).ment m with
      | false => exact frz hmt
      | true =>
        have e : n = m := Nat.eq_of_beq_eq_true hmt
        subst e
        obtain ⟨B', g2, g3⟩ := h3
        rw [hm] at g2; obtain rfl := Option.some.inj g2
        exact ⟨B, by rw [lk_cons, if_pos rfl], by simpa using g3⟩
    | pin n b c f =>
      simp only [frzVX]
      cases hmt : (AV.pin n b c f).ment m with
      | false => exact frz hmt
      | true =>
        have e : n = m := Nat.eq_of_beq_eq_true hmt
        subst e
        obtain ⟨B', g1, g2, g3⟩ := h3
        rw [hm] at g2; obtain rfl := Option.some.inj g2
        exact ⟨B, by simp [g1], by rw [lk_cons, if_pos rfl], g3⟩
  · rw [lk_cons] at h1
    split at h1
    · rename_i e; subst e
      obtain rfl := Option.some.inj h1
      simp only [if_true] at h2
      obtain ⟨k1, k2, k3⟩ := hs.blk m B b cap hm h2
      refine ⟨k1.keep hs1.frz_le rfl, k2, ?_⟩
      unfold frzAll
      rw [if_neg (hno b cap h2)]
      exact k3
    · simp [lk] at h1
  · rw [lk_cons] at h1
    split at h1
    · rename_i e; subst e
      obtain rfl := Option.some.inj h1
      simp only [if_true] at h2
      exact hs.vir m B hm h2
    · simp [lk] at h1
  · rw [lk_cons] at h1 h2
    split at h1
    · rename_i e; split at h2
      · rename_i e'; rw [← e, ← e']
      · simp [lk] at h2
    · simp [lk] at h1
  · have hmt : (AV.slc n).ment m = false := by
      cases hb : (AV.slc n).ment m with
      | false => rfl
      | true => exact absurd (Nat.eq_of_beq_eq_true hb) k2
    exact hs1'.toPV (k3.drop hmt) (by rw [toPV_drop hmt]; exact k4)
theorem Le.freezeX {m : Nat} {B : Blk} (hm : lk A.blks m = some B) : Le A { A with env := frzX m A.blks A.env, blks := [(m, B)] } := fun G Φ β a w hs => by
  obtain ⟨Φ', β', h1, h2, _⟩ := freezeX_sat hm hs
  exact ⟨Φ', β', h1, h2⟩
/-- The results, as data. -/
def ResD (A : St) : List Nat → List PV → Prop
  | [], [] => True
  | t :: ts, q :: qs => (∃ r, lk A.env t = some (True, .pv r) ∧ PSub r q) ∧ ResD A ts qs
  | _, _ => False
theorem ResD.nil : ResD A [] [] := trivial
theorem ResD.cons {t : Nat} {ts : List Nat} {q r : PV} {qs : List PV} (h : lk A.env t = some (True, .pv r)) (hs : PSub r q) (ht : ResD A ts qs) : ResD A (t :: ts) (q :: qs) := ⟨⟨r, h, hs⟩, ht⟩
theorem resd_get (hs : Sat G Φ β A a w) : ∀ {ts : List Nat} {qs : List PV}, ResD A ts qs → ∀ (j : Nat) (q : PV), qs[j]? = some q → ∃ t, ts[j]? = some t ∧ PRel Φ (a.tmps.getD t undef) q
  | [], [], _, j, q, h => by simp at h
  | t :: ts, q0 :: qs, ⟨⟨r, h1, h3⟩, _⟩, 0, q, h => by
    simp at h; subst h
    exact ⟨t, rfl, PRel.sub ((hs.env t True _ h1).1 trivial) h3⟩
  | x :: xs, q0 :: qs, h, j + 1, q, hq => by simpa using resd_get hs h.2 j q (by simpa using hq)
theorem resd_len : ∀ {ts : List Nat} {qs : List PV}, ResD A ts qs → ts.length = qs.length
  | [], [], _ => rfl
  | _ :: _, _ :: _, h => by simp [resd_len h.2]
/-- the end of such a function -/
def FinB (b cap E sz : Nat) (row' : List Cell) (ts : List Nat) (qs : List PV) (e : Exit) (A : St) : Prop :=
  (e = .normal ∨ e = .ret) ∧ ∃ m B, lk A.blks m = some B ∧ lk (frzX m A.blks A.env) 0 = some (True, .pin m b cap (ptrV b)) ∧ B = ⟨E, sz, [row']⟩ ∧ ResD { A with env := frzX m A.blks A.env, blks := [(m, B)] } ts qs
theorem FinB.ret {b cap E sz : Nat} {row' : List Cell} {ts : List Nat} {qs : List PV} (m : Nat) {B : Blk} (h1 : lk A.blks m = some B) (h2 : lk (frzX m A.blks A.env) 0 = some (True, .pin m b cap (ptrV b))) (hB : B = ⟨E, sz, [row']⟩) (h : ResD { A with env := frzX m A.blks A.env, blks := [(m, B)] } ts qs) : FinB b cap E sz row' ts qs .ret A := ⟨.inr rfl, m, B, h1, h2, hB, h⟩
theorem FinB.normal {b cap E sz : Nat} {row' : List Cell} {ts : List Nat} {qs : List PV} (m : Nat) {B : Blk} (h1 : lk A.blks m = some B) (h2 : lk (frzX m A.blks A.env) 0 = some (True, .pin m b cap (ptrV b))) (hB : B = ⟨E, sz, [row']⟩) (h : ResD { A with env := frzX m A.blks A.env, blks := [(m, B)] } ts qs) : FinB b cap E sz row' ts qs .normal A := ⟨.inl rfl, m, B, h1, h2, hB, h⟩
theorem ob_lt {E sz : Nat} {rows : List (List Cell)} (h : Nat.ble mapTag E = false) : (⟨E, sz, rows⟩ : Blk).ob = false := h
theorem BCalls.of_W {f : FuncId} {fn : Func} {c : Code} {E sz : Nat} {row row' : List Cell} {args qs : List PV} (ts : List Nat) (n : Nat) (hf : P.funcs[f]? = some fn) (hn : (fn.name == "runtime.NumGoroutine") = false) (hb : fn.body = some c)
    (hr : fn.results = (ts.map ResultVar.tmp).toArray) (hnt : fn.ntmps = n) (hE : Nat.ble mapTag E = false) (h : ∀ G b cap, W P G c (FinB b cap E sz row' ts qs) (St.initB n b cap E sz row args)) : BCalls P f E sz row args (ofRes qs) row' where
  fn := ⟨fn, hf, hn, by rw [hb]; rfl⟩
  calls := fun Φ w vs b cap hfit hv0 hsz harg hΦ hblk => by
    subst hnt
    have hlt := hblk.lt
    have hs0 : Sat { w0 := w, K := fun c => c < w.heap.size ∧ c ≠ b, F0 := Φ, lt := fun c h => h.1 } Φ (fun n => if n = 0 then some (b, cap) else none) (St.initB fn.ntmps b cap E sz row args) { tmps := vs ++ Array.replicate (fn.ntmps - vs.size) undef, defers := [] } w := by
      have hget : ∀ (t : Nat) (v : Value), vs[t]? = some v → (vs ++ Array.replicate (fn.ntmps - vs.size) undef).getD t undef = v := fun t v h1 => by
        have hlt := (Array.getElem?_eq_some_iff.1 h1).1
        rw [Array.getD_eq_getD_getElem?, Array.getElem?_append_left (by simpa using hlt), h1]; rfl
      refine ⟨⟨rfl, rfl, rfl, Nat.le_refl _, fun b _ => rfl⟩, hfit, fun b _ => rfl, by simp [St.initB]; omega, rfl, fun t q v hl => ?_, fun n B b' cap' h1 h2 => ?_, fun n B h1 h2 => ?_, fun n n' B B' b' c1 c2 h1 h2 h3 h4 => ?_⟩
      · simp only [St.initB] at hl
        rw [lk_cons] at hl
        split at hl
        · rename_i e; subst e
          simp only [Option.some.injEq, Prod.mk.injEq] at hl
          obtain ⟨rfl, rfl⟩ := hl
          refine ⟨fun _ => ⟨⟨E, sz, [row]⟩, by simp, rfl, ob_lt hE, ?_⟩, fun hq => (hq trivial).elim⟩
          rw [hget 0 _ hv0]; rfl
        · rename_i e
          obtain ⟨h1, rfl, p, hp, rfl⟩ := lk_init args 1 t q v hl
          refine ⟨fun _ => ?_, fun hq => (hq trivial).elim⟩
          obtain ⟨v, h2, h3⟩ := harg (t - 1) p hp
          rw [show t - 1 + 1 = t by omega] at h2
          show PRel Φ _ p
          rw [hget t v h2]; exact h3
      · simp only [St.initB] at h1
        rw [lk_cons] at h1
        split at h1
        · rename_i e; subst e
          obtain rfl := Option.some.inj h1
          simp at h2
          obtain ⟨rfl, rfl⟩ := h2
          exact ⟨hblk, fun h => h.2 rfl, hΦ⟩
        · simp [lk] at h1
      · simp only [St.initB] at h1
        rw [lk_cons] at h1
        split at h1
        · rename_i e; subst e; simp at h2
        · simp [lk] at h1
      · split at h3
        · rename_i e; split at h4
          · rename_i e'; rw [e, e']
          · cases h4
        · cases h3
    refine calls_of_wp hf hb (wp_mono (h _ b cap Φ _ _ w hs0) fun e a' w' ⟨A', Φ1, β1, ⟨he, m, B, hm1, hm2, hB, hres⟩, hs1, hle1⟩ => ?_)
    obtain ⟨Φ', β', hle2, hs⟩ := Le.freezeX hm1 _ Φ1 β1 a' w' hs1
    have hle := Frz.le_trans hle1 hle2
    obtain ⟨B0, k1, k2, k3, _⟩ := (hs.env 0 True _ hm2).1 trivial
    rw [lk_cons, if_pos rfl] at k2
    obtain rfl := Option.some.inj k2
    have hbl := hs.blk m B b cap (by rw [lk_cons, if_pos rfl]) k1
    subst hB
    have hv : a'.defers = [] ∧ ∃ v, (results fn a'.tmps).run P w' = .ok v w' ∧ (∃ v1 Φ'', Ending.returned v = .returned v1 ∧ AVRel Φ'' (fun _ => none) [] v1 (ofRes qs) ∧ Φ.le Φ'' ∧ (∀ c, c < w.heap.size → Φ'' c = Φ c) ∧ Fits Φ'' w' ∧ BlkRel Φ'' w' b cap ⟨E, sz, [row']⟩ ∧ BelowX b w.heap.size w w') := by
      refine ⟨hs.dfr, _, run_results hr _ _, _, Φ', rfl, ?_, hle, fun c hc => ?_, hs.fits, hbl.1, ⟨hs.kept.os, hs.kept.tape, hs.kept.output, hs.kept.size, fun c h1 h2 => hs.kept.block c ⟨h1, h2⟩⟩⟩
      · have hl := resd_len hres
        match ts, qs, hres, hl with
        | [], [], _, _ => exact ⟨#[], rfl, rfl, fun j p h => by simp at h⟩
        | [t], [q], hres, _ =>
          obtain ⟨t', h1, h2⟩ := resd_get hs hres 0 q rfl
          simp at h1; subst h1
          exact h2
        | t :: t2 :: ts, q :: q2 :: qs, hres, hl =>
          refine ⟨_, rfl, by simpa using hl, fun j p hp => ?_⟩
          obtain ⟨t', h1, h2⟩ := resd_get hs hres j p hp
          exact ⟨_, by simp only [List.getElem?_toArray, List.getElem?_map, h1]; rfl, h2⟩
      · by_cases e : c = b
        · subst e; rw [hΦ]; exact hbl.2.2
        · exact hs.old c ⟨hc, e⟩
    rcases he with rfl | rfl
    · exact hv
    · exact hv
/-- an own block is lent, and turned -/
theorem AVRel.turn {n : Nat} {B : Blk} {rows : List (List Cell)} (h1 : lk A.blks n = some B) (hob : B.ob = false) (hlen : rows.length = B.rows.length) {v : Value} {x : AV} (h : AVRel Φ β A.blks v x) : AVRel Φ β ((n, { B with rows := rows }) :: A.blks) v x := by
  have hl : ∀ m, m ≠ n → lk ((n, { B with rows := rows }) :: A.blks) m = lk A.blks m := fun m hm => by rw [lk_cons, if_neg (Ne.symm hm)]
  cases x with
  | pv p => exact h
  | tup l => exact h
  | top => trivial
  | addr m i off =>
    obtain ⟨b', cap', B', k1, k2, k3⟩ := h
    by_cases e : m = n
    · subst e
      obtain rfl : B = B' := by rw [h1] at k2; exact Option.some.inj k2
      exact ⟨b', cap', { B with rows := rows }, k1, by rw [lk_cons, if_pos rfl], k3⟩
    · exact ⟨b', cap', B', k1, by rw [hl m e]; exact k2, k3⟩
  | pin m b0 c0 f =>
    obtain ⟨B', k1, k2, k3⟩ := h
    by_cases e : m = n
    · subst e
      obtain rfl : B = B' := by rw [h1] at k2; exact Option.some.inj k2
      exact ⟨{ B with rows := rows }, k1, by rw [lk_cons, if_pos rfl], k3.1, by simp only [hlen]; exact k3.2⟩
    · exact ⟨B', k1, by rw [hl m e]; exact k2, k3⟩
  | slc m =>
    obtain ⟨B', k1, k2⟩ := h
    by_cases e : m = n
    · subst e
      obtain rfl : B = B' := by rw [h1] at k1; exact Option.some.inj k1
      refine ⟨{ B with rows := rows }, by rw [lk_cons, if_pos rfl], k2.1, ?_⟩
      simp only [hlen]; exact k2.2
    · exact ⟨B', by rw [hl m e]; exact k1, k2⟩
  | mp m =>
    obtain ⟨b', cap', B', k1, k2, k3, k4⟩ := h
    have e : m ≠ n := fun e => by
      subst e; rw [h1] at k2; obtain rfl := Option.some.inj k2; rw [ob_map k3] at hob; cases hob
    exact ⟨b', cap', B', k1, by rw [hl m e]; exact k2, k3, k4⟩
  | itr d m =>
    obtain ⟨b', cap', B', M, c, k1, k2, k3, k4, k5, k6, k7⟩ := h
    have e : m ≠ n := fun e => by
      subst e; rw [h1] at k5; obtain rfl := Option.some.inj k5; rw [ob_map k6] at hob; cases hob
    have e' : d ≠ n := fun e => by
      subst e; rw [h1] at k2; obtain rfl := Option.some.inj k2; rw [ob_iter k3] at hob; cases hob
    exact ⟨b', cap', B', M, c, k1, by rw [hl d e']; exact k2, k3, k4, by rw [hl m e]; exact k5, k6, k7⟩
theorem Sat.lend {Φ' : Frz} (hs : Sat G Φ β A a w) {n b cap : Nat} {B : Blk} {rows : List (List Cell)} (h1 : lk A.blks n = some B) (h2 : β n = some (b, cap)) (hob : B.ob = false) (hlen : rows.length = B.rows.length)
    (hle : Φ.le Φ') (heq : ∀ c, c < w.heap.size → Φ' c = Φ c) (hf : Fits Φ' w') (hb : BlkRel Φ' w' b cap { B with rows := rows }) (hx : BelowX b w.heap.size w w') : Sat G Φ' β { A with blks := (n, { B with rows := rows }) :: A.blks } a w' := by
  obtain ⟨g1, g2, g3⟩ := hs.blk n B b cap h1 h2
  have hne : ∀ c, G.K c → c ≠ b := fun c hk e => g2 (e ▸ hk)
  refine ⟨⟨hx.os.trans hs.kept.os, hx.tape.trans hs.kept.tape, hx.output.trans hs.kept.output, Nat.le_trans hs.kept.size hx.size, fun c hk => (hx.block c (Nat.lt_of_lt_of_le (G.lt c hk) hs.kept.size) (hne c hk)).trans (hs.kept.block c hk)⟩, hf,
    fun c hk => (heq c (Nat.lt_of_lt_of_le (G.lt c hk) hs.kept.size)).trans (hs.old c hk), hs.siz, hs.dfr, fun t q v h => ⟨fun hq => (((hs.env t q v h).1 hq).mono hle).turn h1 hob hlen, (hs.env t q v h).2⟩, fun m C b' cap' k1 k2 => ?_, fun m C k1 k2 => ?_, fun m m' C C' b' c c' k1 k2 k3 k4 => ?_⟩
  · rw [lk_cons] at k1
    split at k1
    · rename_i e; subst e
      obtain rfl := Option.some.inj k1
      rw [h2] at k2
      simp only [Option.some.injEq, Prod.mk.injEq] at k2
      obtain ⟨rfl, rfl⟩ := k2
      exact ⟨hb, g2, by rw [heq b g1.lt]; exact g3⟩
    · rename_i e
      obtain ⟨q1, q2, q3⟩ := hs.blk m C b' cap' k1 k2
      have hbb : b' ≠ b := fun e' => by subst e'; exact e (hs.inj n m B C b' cap cap' h1 k1 h2 k2)
      exact ⟨q1.keep hle (hx.block b' q1.lt hbb), q2, by rw [heq b' q1.lt]; exact q3⟩
  · rw [lk_cons] at k1
    split at k1
    · rename_i e; subst e; rw [h2] at k2; cases k2
    · exact hs.vir m C k1 k2
  · have hk : ∀ m C, lk ((n, { B with rows := rows }) :: A.blks) m = some C → ∃ C0, lk A.blks m = some C0 := fun m C h => by
      rw [lk_cons] at h
      split at h
      · rename_i e; subst e; exact ⟨B, h1⟩
      · exact ⟨C, h⟩
    obtain ⟨C0, e0⟩ := hk m C k1
    obtain ⟨C1, e1⟩ := hk m' C' k2
    exact hs.inj m m' C0 C1 b' c c' e0 e1 k3 k4
theorem E_callb {o : Oper} {f : FuncId} {x : Operand} {xs : List Operand} {ats : Array TypeId} {ps : List PV} {E sz d n : Nat} {row row' : List Cell} {r : AV} (ho : o.op = .call { callee := .value (.func f), args := (x :: xs).toArray, argTypes := ats }) (hd : o.dst = some d) (hn : d < A.n)
    (hx0 : Ev A True x (.addr n 0 0)) (hl : lk A.blks n = some ⟨E, sz, [row]⟩) (hx : EvD A True xs ps) (hc : BCalls P f E sz row ps r row') : EffOp P G A o ({ A with blks := (n, ⟨E, sz, [row']⟩) :: A.blks }.set d True r) := fun Φ β a w hs => by
  unfold Oper.wp
  rw [call_run ho hc.fn]
  obtain ⟨b, cap, B, h1, h2, hob, h3⟩ := hs.ev hx0 trivial
  rw [hl] at h2
  obtain rfl := Option.some.inj h2
  obtain ⟨g1, g2, g3⟩ := hs.blk n _ b cap hl h1
  have h3' : a.eval x = .pointer (some ⟨b, 0, none⟩) := by rw [h3]; simp
  refine Calls.mono (hc.calls Φ w _ b cap hs.fits (by simp [h3']) (by simp [evd_len hx]) (fun j q hq => ?_) g3 g1) ?_
  · obtain ⟨y, k1, k2⟩ := evd_args hs trivial hx j q hq
    exact ⟨a.eval y, by simp [k1], k2⟩
  · rintro e w' ⟨v, Φ', rfl, hv, hle, heq, hfit, hbl, hb⟩
    have hs' := hs.lend (rows := [row']) hl h1 hob rfl hle heq hfit hbl hb
    show ∃ Φ'' β', Sat G Φ'' β' _ (a.put o.dst v) w' ∧ Φ.le Φ''
    rw [hd]
    exact ⟨Φ', β, hs'.put hn hv.ret, hle⟩
end
section
variable {P : Program} {G : Ghost} {ops : Array Oper} {rest : List Oper} {Q : St → Prop} {n0 : Nat} {env : List (Nat × (Prop × AV))} {bl : List (Nat × Blk)} {p : Prop} {dst : Option Nat} {ty : TypeId} {pos : String} {after : Array Edge} {gd : Option (Nat × Bool)}
theorem S_callb {d n E sz : Nat} {row row' : List Cell} {f : FuncId} {x : Operand} {xs : List Operand} {ats : Array TypeId} {ps : List PV} {r : AV} (hc : BCalls P f E sz row ps r row') (hx0 : Ev (St.mk n0 env bl) True x (.addr n 0 0)) (hl : lk bl n = some ⟨E, sz, [row]⟩) (hn : Nat.blt d n0 = true) (hx : EvD (St.mk n0 env bl) True xs ps)
    (h : RG P G ops rest Q (St.mk n0 ((d, (True, r)) :: env) ((n, ⟨E, sz, [row']⟩) :: bl))) : RG P G ops (⟨some d, .call ⟨.value (.func f), (x :: xs).toArray, ats⟩, ty, pos, after, none⟩ :: rest) Q (St.mk n0 env bl) :=
  RG.eff rfl (E_callb rfl rfl (blt_lt hn) hx0 hl hx hc) h
/-- a pointer that came in -/
theorem Q_unpin {x : Operand} {n b c : Nat} (hx : Ev (St.mk n0 env bl) p x (.pin n b c (ptrV b))) : PureOp P G (St.mk n0 env bl) ⟨dst, .move x, ty, pos, after, gd⟩ p (.addr n 0 0) := PureOp.val fun Φ β a w hs hp => by
  obtain ⟨B, h1, h2, h3, h4⟩ := hs.ev hx hp
  exact ⟨a.eval x, exec_val (m := pure (a.eval x)) (by simp [execOp]) rfl, b, c, B, h1, h2, h3, by rw [h4, ptrV]; simp⟩
end
end Lf
