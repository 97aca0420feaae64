/-
  Operations that make or turn memory of the call's own.
-/
import Derived.Test.YtipghibmgfhmpaaGreatDoorLfCall
set_option linter.unusedVariables false
set_option linter.unusedSimpArgs false
namespace Lf
open Go Go.RowKit

def AV.ment (n : Nat) : AV → Bool
  | .addr m _ _ => Nat.beq m n
  | .slc m => Nat.beq m n
  | .mp m => Nat.beq m n
  | .itr d m => Nat.beq d n || Nat.beq m n
  | .pin m _ _ _ => Nat.beq m n
  | _ => false
/-- Nothing is known any more of what named block n. -/
def fgt (n : Nat) : List (Nat × (Prop × AV)) → List (Nat × (Prop × AV))
  | [] => []
  | (t, (q, v)) :: r => (t, (q, bif v.ment n then .top else v)) :: fgt n r
theorem lk_fgt (n : Nat) : ∀ (env : List (Nat × (Prop × AV))) (t : Nat) (q : Prop) (v : AV), lk (fgt n env) t = some (q, v) → ∃ v', lk env t = some (q, v') ∧ v = bif v'.ment n then .top else v'
  | [], t, q, v, h => by simp [fgt, lk] at h
  | (s, (q0, v0)) :: r, t, q, v, h => by
    rw [fgt, lk_cons] at h
    rw [lk_cons]
    split at h
    · rename_i e
      simp only [Option.some.injEq, Prod.mk.injEq] at h
      rw [if_pos e]
      exact ⟨v0, by rw [h.1], h.2.symm⟩
    · rename_i e
      rw [if_neg e]
      exact lk_fgt n r t q v h

def deadBlk : Blk := ⟨0, 0, []⟩
/-- Name d now names a block; name n names nothing any more. -/
def St.bind (A : St) (d n : Nat) (B : Blk) : St := { n := A.n, env := fgt d (fgt n A.env), blks := (d, B) :: (n, deadBlk) :: A.blks }
def bindOwn (β : Own) (d n b cap : Nat) : Own := fun m => if m = d then some (b, cap) else if m = n then none else β m

section
variable {P : Program} {G : Ghost} {A : St} {Φ : Frz} {β : Own} {a : Act} {w w' : World}

theorem ment_false {v : AV} {n m : Nat} (h : v.ment n = false) (hm : v.ment m = true) : m ≠ n := fun e => by subst e; rw [h] at hm; cases hm

theorem AVRel.bind {v : Value} {x : AV} {d n b cap : Nat} {B : Blk} (h : AVRel Φ β A.blks v x) (hd : x.ment d = false) (hn : x.ment n = false) :
    AVRel Φ (bindOwn β d n b cap) ((d, B) :: (n, deadBlk) :: A.blks) v x := by
  have hl : ∀ m, m ≠ d → m ≠ n → lk ((d, B) :: (n, deadBlk) :: A.blks) m = lk A.blks m := fun m h1 h2 => by rw [lk_cons, if_neg (Ne.symm h1), lk_cons, if_neg (Ne.symm h2)]
  have hb : ∀ m, m ≠ d → m ≠ n → bindOwn β d n b cap m = β m := fun m h1 h2 => by simp [bindOwn, h1, h2]
  cases x with
  | pv p => exact h
  | tup l => exact h
  | top => trivial
  | addr m i off =>
    have h1 : m ≠ d := fun e => by subst e; simp [AV.ment] at hd
    have h2 : m ≠ n := fun e => by subst e; simp [AV.ment] at hn
    obtain ⟨b', cap', B', g1, g2, g3⟩ := h
    exact ⟨b', cap', B', by rw [hb m h1 h2]; exact g1, by rw [hl m h1 h2]; exact g2, g3⟩
  | slc m =>
    have h1 : m ≠ d := fun e => by subst e; simp [AV.ment] at hd
    have h2 : m ≠ n := fun e => by subst e; simp [AV.ment] at hn
    obtain ⟨B', g2, g3⟩ := h
    refine ⟨B', by rw [hl m h1 h2]; exact g2, ?_⟩
    rw [hb m h1 h2]; exact g3
  | mp m =>
    have h1 : m ≠ d := fun e => by subst e; simp [AV.ment] at hd
    have h2 : m ≠ n := fun e => by subst e; simp [AV.ment] at hn
    obtain ⟨b', cap', B', g1, g2, g3⟩ := h
    exact ⟨b', cap', B', by rw [hb m h1 h2]; exact g1, by rw [hl m h1 h2]; exact g2, g3⟩
  | itr e m =>
    have h1 : m ≠ d := fun e => by subst e; simp [AV.ment] at hd
    have h2 : m ≠ n := fun e => by subst e; simp [AV.ment] at hn
    have h3 : e ≠ d := fun e => by subst e; simp [AV.ment] at hd
    have h4 : e ≠ n := fun e => by subst e; simp [AV.ment] at hn
    obtain ⟨b', cap', B', M, c, g1, g2, g3, g4, g5, g6⟩ := h
    exact ⟨b', cap', B', M, c, by rw [hb e h3 h4]; exact g1, by rw [hl e h3 h4]; exact g2, g3, by rw [hb m h1 h2]; exact g4, by rw [hl m h1 h2]; exact g5, g6⟩
  | pin m b0 c0 f =>
    have h1 : m ≠ d := fun e => by subst e; simp [AV.ment] at hd
    have h2 : m ≠ n := fun e => by subst e; simp [AV.ment] at hn
    obtain ⟨B', g1, g2, g3⟩ := h
    exact ⟨B', by rw [hb m h1 h2]; exact g1, by rw [hl m h1 h2]; exact g2, g3⟩

theorem Sat.bind (hs : Sat G Φ β A a w) {d n b cap : Nat} {B : Blk} {row : Option Nat} (hg : w.grownBy w' row) (hrow : ∀ k, row = some k → k = b) (hb : BlkRel Φ w' b cap B) (hK : ¬ G.K b) (hP : Φ b = none)
    (hoth : ∀ m B' cap', m ≠ d → m ≠ n → lk A.blks m = some B' → β m ≠ some (b, cap')) : Sat G Φ (bindOwn β d n b cap) (A.bind d n B) a w' where
  kept := ⟨hg.os.trans hs.kept.os, hg.tape.trans hs.kept.tape, hg.output.trans hs.kept.output, Nat.le_trans hs.kept.size hg.size, fun k hk => by
    rw [hg.block k (Nat.lt_of_lt_of_le (G.lt k hk) hs.kept.size) (fun e => hK (hrow k e.symm ▸ hk))]; exact hs.kept.block k hk⟩
  fits := fun k c hk => by
    obtain ⟨E, fz, h⟩ := hs.fits k c hk
    exact ⟨E, fz, by rw [hg.block k (Array.getElem?_eq_some_iff.1 h).1 (fun e => by rw [hrow k e.symm] at hk; rw [hP] at hk; cases hk)]; exact h⟩
  old := hs.old
  siz := hs.siz
  dfr := hs.dfr
  env := fun t q v h => by
    obtain ⟨v1, h1, rfl⟩ := lk_fgt d _ t q v h
    obtain ⟨v2, h2, rfl⟩ := lk_fgt n _ t q v1 h1
    refine ⟨fun hq => ?_, (hs.env t q v2 h2).2⟩
    have h3 := (hs.env t q v2 h2).1 hq
    cases hn : v2.ment n with
    | true => simp only [cond_true, AV.ment, cond_false]; trivial
    | false =>
      simp only [cond_false]
      cases hd : v2.ment d with
      | true => simp only [cond_true]; trivial
      | false => simp only [cond_false]; exact h3.bind hd hn
  blk := fun m B' b' cap' h1 h2 => by
    simp only [St.bind, lk_cons] at h1
    simp only [bindOwn] at h2
    by_cases e1 : m = d
    · subst e1
      simp only [if_true, Option.some.injEq, Prod.mk.injEq] at h1 h2
      obtain ⟨rfl, rfl⟩ := h2
      subst h1
      exact ⟨hb, hK, hP⟩
    · rw [if_neg e1] at h2
      rw [if_neg (Ne.symm e1)] at h1
      by_cases e2 : m = n
      · subst e2; simp at h2
      · rw [if_neg e2] at h2
        rw [if_neg (Ne.symm e2)] at h1
        obtain ⟨g1, g2, g3⟩ := hs.blk m B' b' cap' h1 h2
        exact ⟨g1.keep Φ.le_refl (hg.block b' g1.lt (fun e => hoth m B' cap' e1 e2 h1 (by rw [← hrow b' e.symm]; exact h2))), g2, g3⟩
  vir := fun m B' h1 h2 => by
    simp only [St.bind, lk_cons] at h1
    simp only [bindOwn] at h2
    by_cases e1 : m = d
    · rw [if_pos e1] at h2; cases h2
    · rw [if_neg e1] at h2
      rw [if_neg (Ne.symm e1)] at h1
      by_cases e2 : m = n
      · rw [if_pos e2.symm] at h1
        simp only [Option.some.injEq] at h1
        subst h1; rfl
      · rw [if_neg e2] at h2
        rw [if_neg (Ne.symm e2)] at h1
        exact hs.vir m B' h1 h2
  inj := fun m m' B1 B2 b' c1 c2 h1 h2 h3 h4 => by
    simp only [St.bind, lk_cons] at h1 h2
    simp only [bindOwn] at h3 h4
    by_cases e1 : m = d
    · by_cases e2 : m' = d
      · rw [e1, e2]
      · exfalso
        rw [if_pos e1] at h3
        rw [if_neg e2] at h4
        rw [if_neg (Ne.symm e2)] at h2
        by_cases e3 : m' = n
        · rw [if_pos e3] at h4; cases h4
        · rw [if_neg e3] at h4
          rw [if_neg (Ne.symm e3)] at h2
          simp only [Option.some.injEq, Prod.mk.injEq] at h3
          exact hoth m' B2 c2 e2 e3 h2 (by rw [h3.1]; exact h4)
    · rw [if_neg e1] at h3
      rw [if_neg (Ne.symm e1)] at h1
      by_cases e3 : m = n
      · rw [if_pos e3] at h3; cases h3
      · rw [if_neg e3] at h3
        rw [if_neg (Ne.symm e3)] at h1
        by_cases e2 : m' = d
        · exfalso
          rw [if_pos e2] at h4
          simp only [Option.some.injEq, Prod.mk.injEq] at h4
          exact hoth m B1 c1 e1 e3 h1 (by rw [h4.1]; exact h3)
        · rw [if_neg e2] at h4
          rw [if_neg (Ne.symm e2)] at h2
          by_cases e4 : m' = n
          · rw [if_pos e4] at h4; cases h4
          · rw [if_neg e4] at h4
            rw [if_neg (Ne.symm e4)] at h2
            exact hs.inj m m' B1 B2 b' c1 c2 h1 h2 h3 h4

theorem Sat.put (hs : Sat G Φ β A a w) {d : Nat} (hd : d < A.n) {v : AV} {u : Value} (hv : AVRel Φ β A.blks u v) : Sat G Φ β (A.set d True v) (a.put (some d) u) w :=
  hs.set Φ.le_refl (fun _ _ => rfl) hs.fits (Below.refl _ _) hd (fun _ => hv) (fun h => (h trivial).elim)

theorem Sat.new_ok (hs : Sat G Φ β A a w) : ¬ G.K w.heap.size ∧ Φ w.heap.size = none ∧ ∀ (m : Nat) (B' : Blk) (cap' : Nat), lk A.blks m = some B' → β m ≠ some (w.heap.size, cap') := by
  refine ⟨fun h => ?_, ?_, fun m B' cap' h1 h2 => ?_⟩
  · have := G.lt _ h
    have := hs.kept.size
    omega
  · cases h : Φ w.heap.size with
    | none => rfl
    | some c =>
      obtain ⟨E, fz, hw⟩ := hs.fits _ c h
      have := (Array.getElem?_eq_some_iff.1 hw).1
      omega
  · have := (hs.blk m B' _ cap' h1 h2).1.lt
    omega

theorem EffOp.of_val {o : Oper} {A' : St} (h : ∀ Φ β a w, Sat G Φ β A a w → ∃ u w' Φ' β', (execOp a.eval o).run P w = .ok (.value u) w' ∧ Sat G Φ' β' A' (a.put o.dst u) w' ∧ Φ.le Φ') : EffOp P G A o A' := fun Φ β a w hs => by
  obtain ⟨u, w', Φ', β', h1, h2, h3⟩ := h Φ β a w hs
  unfold Oper.wp
  rw [h1]
  exact ⟨Φ', β', h2, h3⟩
theorem EffOp.of_skip {o : Oper} {A' : St} (hd : o.dst = none) (h : ∀ Φ β a w, Sat G Φ β A a w → ∃ w' Φ' β', (execOp a.eval o).run P w = .ok .skip w' ∧ Sat G Φ' β' A' a w' ∧ Φ.le Φ') : EffOp P G A o A' := fun Φ β a w hs => by
  obtain ⟨w', Φ', β', h1, h2, h3⟩ := h Φ β a w hs
  unfold Oper.wp
  rw [h1]
  show ∃ Φ' β', Sat G Φ' β' A' (a.put o.dst undef) w' ∧ Φ.le Φ'
  rw [hd]
  exact ⟨Φ', β', h2, h3⟩

/-- A new block, named by the slot in which its pointer comes to lie. -/
theorem Sat.alloc (hs : Sat G Φ β A a w) {d cap : Nat} {B : Blk} {cur : Array Value} (hob : B.ob = false) (hsz : cur.size = cap * B.sz) (hlen : B.rows.length ≤ cap) (hcap : cap ≤ maxLen) (hr : ∀ r ∈ B.rows, r.length = B.sz)
    (hc : ∀ (i j : Nat) (r : List Cell) (x : Cell), B.rows[i]? = some r → r[j]? = some x → ∃ v, cur[i * B.sz + j]? = some v ∧ Rel Φ v x) :
    Sat G Φ (bindOwn β d d w.heap.size cap) (A.bind d d B) a (w.alloc (.cells cur B.E)) := by
  obtain ⟨h1, h2, h3⟩ := hs.new_ok
  exact hs.bind (w.grownBy_alloc _ none) (fun k e => by cases e) (.inl ⟨hob, cur, heap_alloc_new w _, hlen, hcap, hsz, hr, hc⟩) h1 h2 (fun m B' cap' _ _ h => h3 m B' cap' h)

theorem relL_get' {vs : Array Value} {cs : List Cell} (h : RelL Φ vs.toList cs) {j : Nat} {c : Cell} (hj : cs[j]? = some c) : ∃ v, vs[j]? = some v ∧ Rel Φ v c := by
  obtain ⟨v, h1, h2⟩ := h.get hj
  exact ⟨v, by simpa using h1, h2⟩

theorem one_row {z : Array Value} {cs : List Cell} (hz : RelL Φ z.toList cs) (i j : Nat) (r : List Cell) (x : Cell) (hi : [cs][i]? = some r) (hj : r[j]? = some x) : ∃ v, z[i * cs.length + j]? = some v ∧ Rel Φ v x := by
  match i with
  | 0 => simp at hi; subst hi; simpa using relL_get' hz hj
  | i + 1 => simp at hi

variable {T : TT} (hT : TOK P T)
include hT

theorem E_alloc {o : Oper} {t d : Nat} {ti : TI} (ho : o.op = .alloc t) (hd : o.dst = some d) (hn : d < A.n) (ht : T t = some ti) (hz : ti.zero.cells.length = ti.sz) :
    EffOp P G A o ((A.bind d d ⟨t, ti.sz, [ti.zero.cells]⟩).set d True (.addr d 0 0)) := EffOp.of_val fun Φ β a w hs => by
  obtain ⟨i, hi, hsz, _, z, hzz, hrel⟩ := (hT t ti ht).info
  have hr := (hrel Φ).cells
  have hlen : z.cells.size = ti.sz := by have := hr.length; rw [← hz, ← this]; simp
  have hrun : (execOp a.eval o).run P w = .ok (.value (.pointer (some ⟨w.heap.size, 0, none⟩))) (w.alloc (.cells z.cells t)) :=
    exec_val (m := Instr.alloc t true (.tuple #[])) (by simp only [execOp, ho]) (by simp [Instr.alloc, zeroValue, typeInfo, hi, hzz, newVar, newRow])
  refine ⟨_, _, Φ, bindOwn β d d w.heap.size 1, hrun, ?_, Φ.le_refl⟩
  rw [hd]
  have hob : Blk.ob ⟨t, ti.sz, [ti.zero.cells]⟩ = false := (hT t ti ht).small
  refine Sat.put (hs.alloc (d := d) (cap := 1) (B := ⟨t, ti.sz, [ti.zero.cells]⟩) (cur := z.cells) hob (by simpa using hlen) (by simp) (by simp [maxLen]) (by simp [hz]) (fun i j r x hi hj => ?_)) hn ⟨w.heap.size, 1, ⟨t, ti.sz, [ti.zero.cells]⟩, by simp [bindOwn], by simp [St.bind, lk_cons], hob, by simp⟩
  have := one_row hr i j r x hi hj
  rw [hz] at this
  exact this

omit hT in
theorem E_box {o : Oper} {t d : Nat} {x : Operand} {q : PV} (hsm : Nat.ble mapTag t = false) (ho : o.op = .box t x) (hd : o.dst = some d) (hn : d < A.n) (hx : Ev A True x (.pv q)) :
    EffOp P G A o ((A.bind d d ⟨t, q.cells.length, [q.cells]⟩).set d True (.addr d 0 0)) := EffOp.of_val fun Φ β a w hs => by
  have hr := PRel.cells (show PRel Φ (a.eval x) q from hs.ev hx trivial)
  have hlen : (a.eval x).cells.size = q.cells.length := by have := hr.length; rw [← this]; simp
  have hrun : (execOp a.eval o).run P w = .ok (.value (.pointer (some ⟨w.heap.size, 0, none⟩))) (w.alloc (.cells (a.eval x).cells t)) :=
    exec_val (m := Instr.box t (a.eval x)) (by simp only [execOp, ho]) (by simp [Instr.box, newVar, newRow])
  refine ⟨_, _, Φ, bindOwn β d d w.heap.size 1, hrun, ?_, Φ.le_refl⟩
  rw [hd]
  exact Sat.put (hs.alloc (d := d) (cap := 1) (B := ⟨t, q.cells.length, [q.cells]⟩) (cur := (a.eval x).cells) hsm (by simpa using hlen) (by simp) (by simp [maxLen]) (by simp) (fun i j r x hi hj => one_row hr i j r x hi hj)) hn ⟨w.heap.size, 1, ⟨t, q.cells.length, [q.cells]⟩, by simp [bindOwn], by simp [St.bind, lk_cons], hsm, by simp⟩

/-! ### A store -/
omit hT in
/-- The block of a name is turned in place. -/
theorem Sat.turn (hs : Sat G Φ β A a w) {n b cap : Nat} {B : Blk} {rows : List (List Cell)} {cur : Array Value} (h1 : lk A.blks n = some B) (h2 : β n = some (b, cap)) (hob : B.ob = false) (hsz : cur.size = cap * B.sz) (hlen : rows.length = B.rows.length) (hr : ∀ r ∈ rows, r.length = B.sz)
    (hc : ∀ (i j : Nat) (r : List Cell) (x : Cell), rows[i]? = some r → r[j]? = some x → ∃ v, cur[i * B.sz + j]? = some v ∧ Rel Φ v x) :
    Sat G Φ β { A with blks := (n, { B with rows := rows }) :: A.blks } a (w.setRow b cur) := by
  obtain ⟨gB, gK, gP⟩ := hs.blk n B b cap h1 h2
  obtain ⟨old, g1, g2, g3, g4, g5, g6⟩ := gB.cells hob
  have hoth : ∀ k, k ≠ b → (w.setRow b cur).heap[k]? = w.heap[k]? := fun k hk => setRow_other w b k cur hk
  have hl : ∀ m, m ≠ n → lk ((n, ({ B with rows := rows } : Blk)) :: A.blks) m = lk A.blks m := fun m hm => by rw [lk_cons, if_neg (Ne.symm hm)]
  refine ⟨⟨hs.kept.os, hs.kept.tape, hs.kept.output, by simpa [World.setRow] using hs.kept.size, fun k hk => ?_⟩, fun k c hk => ?_, hs.old, hs.siz, hs.dfr, fun t q v h => ?_, fun m B' b' cap' k1 k2 => ?_, fun m B' k1 k2 => ?_, fun m m' B1 B2 b' c1 c2 k1 k2 k3 k4 => ?_⟩
  · rw [hoth k (fun e => gK (e ▸ hk))]; exact hs.kept.block k hk
  · obtain ⟨E, fz, h⟩ := hs.fits k c hk
    exact ⟨E, fz, by rw [hoth k (fun e => by rw [e, gP] at hk; cases hk)]; exact h⟩
  · refine ⟨fun hq => ?_, (hs.env t q v h).2⟩
    have h3 := (hs.env t q v h).1 hq
    cases v with
    | pv p => exact h3
    | tup l => exact h3
    | top => trivial
    | mp m =>
      obtain ⟨b', cap', B', k1, k2, k3, k4⟩ := h3
      have e : m ≠ n := fun e => by
        subst e
        rw [h1] at k2
        obtain rfl := Option.some.inj k2
        rw [ob_map k3] at hob; cases hob
      exact ⟨b', cap', B', k1, by rw [hl m e]; exact k2, k3, k4⟩
    | itr d m =>
      obtain ⟨b', cap', B', M, c, k1, k2, k3, k4, k5, k6, k7⟩ := h3
      have e : m ≠ n := fun e => by
        subst e
        rw [h1] at k5
        obtain rfl := Option.some.inj k5
        rw [ob_map k6] at hob; cases hob
      have e' : d ≠ n := fun e => by
        subst e
        rw [h1] at k2
        obtain rfl := Option.some.inj k2
        rw [ob_iter k3] at hob; cases hob
      exact ⟨b', cap', B', M, c, k1, by rw [hl d e']; exact k2, k3, k4, by rw [hl m e]; exact k5, k6, k7⟩
    | addr m i off =>
      obtain ⟨b', cap', B', k1, k2, k3⟩ := h3
      by_cases e : m = n
      · subst e
        obtain rfl : B = B' := by rw [h1] at k2; exact Option.some.inj k2
        exact ⟨b', cap', { B with rows := rows }, k1, by rw [lk_cons, if_pos rfl], k3⟩
      · exact ⟨b', cap', B', k1, by rw [hl m e]; exact k2, k3⟩
    | pin m b0 c0 f =>
      obtain ⟨B', k1, k2, k3⟩ := h3
      by_cases e : m = n
      · subst e
        obtain rfl : B = B' := by rw [h1] at k2; exact Option.some.inj k2
        exact ⟨{ B with rows := rows }, k1, by rw [lk_cons, if_pos rfl], k3.1, by simp only [hlen]; exact k3.2⟩
      · exact ⟨B', k1, by rw [hl m e]; exact k2, k3⟩
    | slc m =>
      obtain ⟨B', k1, k2⟩ := h3
      by_cases e : m = n
      · subst e
        obtain rfl : B = B' := by rw [h1] at k1; exact Option.some.inj k1
        refine ⟨{ B with rows := rows }, by rw [lk_cons, if_pos rfl], k2.1, ?_⟩
        simp only [hlen]; exact k2.2
      · exact ⟨B', by rw [hl m e]; exact k1, k2⟩
  · by_cases e : m = n
    · subst e
      rw [lk_cons, if_pos rfl] at k1
      obtain rfl := Option.some.inj k1
      rw [h2] at k2
      simp only [Option.some.injEq, Prod.mk.injEq] at k2
      obtain ⟨rfl, rfl⟩ := k2
      exact ⟨.inl ⟨hob, cur, setRow_heap w b old cur _ _ g1, by simpa [hlen] using g2, g3, hsz, hr, hc⟩, gK, gP⟩
    · rw [hl m e] at k1
      obtain ⟨q1, q3, q4⟩ := hs.blk m B' b' cap' k1 k2
      exact ⟨q1.keep Φ.le_refl (hoth b' (fun e' => e (hs.inj m n B' B b' cap' cap k1 h1 k2 (by rw [e']; exact h2)))), q3, q4⟩
  · by_cases e : m = n
    · subst e; rw [h2] at k2; cases k2
    · rw [hl m e] at k1; exact hs.vir m B' k1 k2
  · have r1 : ∃ B1', lk A.blks m = some B1' := by
      by_cases e : m = n
      · exact ⟨B, e ▸ h1⟩
      · exact ⟨B1, by rw [hl m e] at k1; exact k1⟩
    have r2 : ∃ B2', lk A.blks m' = some B2' := by
      by_cases e : m' = n
      · exact ⟨B, e ▸ h1⟩
      · exact ⟨B2, by rw [hl m' e] at k2; exact k2⟩
    obtain ⟨_, r1⟩ := r1
    obtain ⟨_, r2⟩ := r2
    exact hs.inj m m' _ _ b' c1 c2 r1 r2 k3 k4

/-- Cells put into a row. -/
def splice (r : List Cell) (off : Nat) (cs : List Cell) : List Cell := r.take off ++ cs ++ r.drop (off + cs.length)

omit hT in
theorem splice_len {r : List Cell} {off : Nat} {cs : List Cell} (h : off + cs.length ≤ r.length) : (splice r off cs).length = r.length := by
  simp [splice]; omega

theorem E_storeG {o : Oper} {t n i off : Nat} {x y : Operand} {ti : TI} {B : Blk} {r : List Cell} {q : PV} (ho : o.op = .store t x y) (hd : o.dst = none) (ht : T t = some ti)
    (hx : Ev A True x (.addr n i off)) (hy : ∀ Φ β a w, Sat G Φ β A a w → PRel Φ (a.eval y) q) (hl : lk A.blks n = some B) (hr : B.rows[i]? = some r) (hq : q.cells.length = ti.sz) (hfit : off + ti.sz ≤ r.length) :
    EffOp P G A o { A with blks := (n, { B with rows := B.rows.set i (splice r off q.cells) }) :: A.blks } := EffOp.of_skip hd fun Φ β a w hs => by
  obtain ⟨b, cap, B', h1, h2, hob, h3⟩ := hs.ev hx trivial
  obtain rfl : B = B' := by rw [hl] at h2; exact Option.some.inj h2
  obtain ⟨cur, g1, g2, g3, g4, g5, g6⟩ := (hs.blk n B b cap hl h1).1.cells hob
  have hv := PRel.cells (hy Φ β a w hs)
  have hlen := hv.length
  rw [hq] at hlen
  have hrl : r.length = B.sz := g5 r (List.mem_of_getElem? hr)
  have hil : i < B.rows.length := (List.getElem?_eq_some_iff.1 hr).1
  have hmul : i * B.sz + B.sz ≤ cur.size := by
    rw [g4]
    calc i * B.sz + B.sz = (i + 1) * B.sz := by rw [Nat.add_mul, Nat.one_mul]
      _ ≤ cap * B.sz := Nat.mul_le_mul_right _ (by omega)
  have hst := run_storeCells_at P b (i * B.sz + off) B.E (a.eval y).cells.toList 0 cur w g1 (by rw [hlen]; omega) hv.oneCell
  simp only [Nat.add_zero] at hst
  have hrun : (execOp a.eval o).run P w = .ok .skip (w.setRow b (cur.toList.take (i * B.sz + off) ++ (a.eval y).cells.toList ++ cur.toList.drop (i * B.sz + off + (a.eval y).cells.toList.length)).toArray) := by
    have e : execOp a.eval o = (do Instr.storeAt t (a.eval x) (a.eval y); pure .skip) := by simp only [execOp, ho]
    have hs1 : (a.eval y).cells.size = ti.sz := by simpa using hlen
    rw [e, h3]
    simp only [Instr.storeAt, Instr.sureAddr, storeVar, pure_bind, Sem.run_bind, run_sizeOf hT ht, Result.andThen_ok, hs1, ne_eq, not_true_eq_false, if_false, hst]
    simp
  refine ⟨_, Φ, β, hrun, ?_, Φ.le_refl⟩
  refine hs.turn hl h1 hob ?_ (by simp) (fun r' hr' => ?_) (fun i' j r' c hi hj => ?_)
  · simp only [List.size_toArray, List.length_append, List.length_take, List.length_drop, hlen]
    simp only [Array.length_toList]
    omega
  · rcases List.mem_or_eq_of_mem_set hr' with h | h
    · exact g5 r' h
    · rw [h, splice_len (by rw [hq]; exact hfit), hrl]
  · rw [List.getElem?_set] at hi
    have key : ∀ k, (cur.toList.take (i * B.sz + off) ++ (a.eval y).cells.toList ++ cur.toList.drop (i * B.sz + off + (a.eval y).cells.toList.length)).toArray[k]? =
        if k < i * B.sz + off then cur[k]? else if k < i * B.sz + off + ti.sz then (a.eval y).cells[k - (i * B.sz + off)]? else cur[k]? := fun k => by
      simp only [List.getElem?_toArray, List.getElem?_append, List.length_append, List.length_take, Array.length_toList, List.getElem?_take, List.getElem?_drop, Array.getElem?_toList, hlen]
      have hm : min (i * B.sz + off) cur.size = i * B.sz + off := by omega
      rw [hm]
      by_cases k1 : k < i * B.sz + off
      · rw [if_pos (by omega), if_pos k1, if_pos k1, if_pos k1]
      · by_cases k2 : k < i * B.sz + off + ti.sz
        · rw [if_pos k2, if_neg k1, if_neg k1, if_pos k2]
        · rw [if_neg k2, if_neg k1, if_neg k2]
          congr 1; omega
    by_cases e : i = i'
    · subst e
      rw [if_pos rfl] at hi
      simp only [hil, if_true, Option.some.injEq] at hi
      subst hi
      have hjl : j < B.sz := by
        have := (List.getElem?_eq_some_iff.1 hj).1
        rw [splice_len (by rw [hq]; exact hfit), hrl] at this
        exact this
      rw [key]
      simp only [splice, List.getElem?_append, List.length_append, List.length_take, List.getElem?_take, List.getElem?_drop] at hj
      have hm : min off r.length = off := by omega
      rw [hm, hq] at hj
      by_cases k1 : j < off
      · rw [if_pos (by omega), if_pos k1, if_pos k1] at hj
        rw [if_pos (by omega)]
        exact g6 i j r c hr hj
      · by_cases k2 : j < off + ti.sz
        · rw [if_pos k2, if_neg k1] at hj
          rw [if_neg (by omega), if_pos (by omega)]
          have : i * B.sz + j - (i * B.sz + off) = j - off := by omega
          rw [this]
          exact relL_get' hv hj
        · rw [if_neg k2] at hj
          rw [if_neg (by omega), if_neg (by omega)]
          have : off + ti.sz + (j - (off + ti.sz)) = j := by omega
          rw [this] at hj
          exact g6 i j r c hr hj
    · rw [if_neg e] at hi
      obtain ⟨v, q1, q2⟩ := g6 i' j r' c hi hj
      refine ⟨v, ?_, q2⟩
      have hjl : j < B.sz := by
        have := (List.getElem?_eq_some_iff.1 hj).1
        rw [g5 r' (List.mem_of_getElem? hi)] at this
        exact this
      rw [key]
      rcases Nat.lt_or_ge i' i with h | h
      · have : i' * B.sz + B.sz ≤ i * B.sz := by
          calc i' * B.sz + B.sz = (i' + 1) * B.sz := by rw [Nat.add_mul, Nat.one_mul]
            _ ≤ i * B.sz := Nat.mul_le_mul_right _ (by omega)
        rw [if_pos (by omega)]; exact q1
      · have : i * B.sz + B.sz ≤ i' * B.sz := by
          calc i * B.sz + B.sz = (i + 1) * B.sz := by rw [Nat.add_mul, Nat.one_mul]
            _ ≤ i' * B.sz := Nat.mul_le_mul_right _ (by omega)
        rw [if_neg (by omega), if_neg (by omega)]; exact q1
theorem E_store {o : Oper} {t n i off : Nat} {x y : Operand} {ti : TI} {B : Blk} {r : List Cell} {q : PV} (ho : o.op = .store t x y) (hd : o.dst = none) (ht : T t = some ti)
    (hx : Ev A True x (.addr n i off)) (hy : Ev A True y (.pv q)) (hl : lk A.blks n = some B) (hr : B.rows[i]? = some r) (hq : q.cells.length = ti.sz) (hfit : off + ti.sz ≤ r.length) :
    EffOp P G A o { A with blks := (n, { B with rows := B.rows.set i (splice r off q.cells) }) :: A.blks } := E_storeG hT ho hd ht hx (fun Φ β a w hs => hs.ev hy trivial) hl hr hq hfit

end
end Lf
