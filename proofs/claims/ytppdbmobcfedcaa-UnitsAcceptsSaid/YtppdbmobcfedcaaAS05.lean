/-
  Part 5 of what the proof rests on.
-/
import Derived.Test.YtppdbmobcfedcaaAS04
section
set_option linter.unusedVariables false
set_option linter.unusedSimpArgs false
namespace Lf
open Go Go.RowKit
abbrev EnvO := List (Option (Nat × (Prop × AV)))
/-- The values that have come up, pushed in the text's order; a store has none. -/
def eO (L : Nat → Bool) : Nat → EnvO → Env → Env
  | _, [], env => env
  | k, some x :: r, env => eO L (k + 1) r (if L k then x :: env else env)
  | k, none :: r, env => eO L (k + 1) r env
theorem eO_congr {L L' : Nat → Bool} {t : Nat} : ∀ (vals : EnvO) (k : Nat) (env env' : Env), lk env t = lk env' t → (∀ j x, vals[j]? = some (some x) → x.1 = t → L (k + j) = L' (k + j)) → lk (eO L k vals env) t = lk (eO L' k vals env') t
  | [], k, env, env', h, _ => h
  | none :: r, k, env, env', h, hj => by
    rw [eO, eO]
    exact eO_congr r (k + 1) _ _ h fun j y hy he => by have := hj (j + 1) y (by simpa using hy) he; rwa [show k + (j + 1) = k + 1 + j by omega] at this
  | some x :: r, k, env, env', h, hj => by
    rw [eO, eO]
    refine eO_congr r (k + 1) _ _ ?_ fun j y hy he => by have := hj (j + 1) y (by simpa using hy) he; rwa [show k + (j + 1) = k + 1 + j by omega] at this
    obtain ⟨t', e⟩ := x
    by_cases hx : t' = t
    · have := hj 0 (t', e) rfl hx
      simp only [Nat.add_zero] at this
      rw [this]
      split
      · rw [lk_cons, lk_cons, if_pos hx, if_pos hx]
      · exact h
    · split <;> split <;> simp [lk_cons, hx, h]
theorem eO_none : ∀ (vals : EnvO) (k : Nat) (env : Env), eO (fun _ => false) k vals env = env
  | [], _, _ => rfl
  | none :: r, k, env => by rw [eO]; exact eO_none r (k + 1) env
  | some x :: r, k, env => by rw [eO]; exact eO_none r (k + 1) env
theorem eO_past {m : Nat} : ∀ (r : EnvO) (k' : Nat) (env : Env), m ≤ k' → eO (fun j => decide (j < m)) k' r env = env
  | [], _, _, _ => rfl
  | none :: r, k', env, h => by rw [eO]; exact eO_past r _ _ (by omega)
  | some z :: r, k', env, h => by rw [eO, if_neg (by simp; omega)]; exact eO_past r _ _ (by omega)
theorem eO_lt : ∀ (vals : EnvO) (k i : Nat) (env : Env) (x : Nat × (Prop × AV)), vals[i]? = some (some x) → eO (fun j => decide (j < k + i + 1)) k vals env = x :: eO (fun j => decide (j < k + i)) k vals env
  | [], k, i, env, x, h => by simp at h
  | y :: r, k, 0, env, x, h => by
    simp at h; subst h
    rw [eO, eO, eO_past r (k + 1) _ (by omega), eO_past r (k + 1) _ (by omega), if_pos (by simp), if_neg (by simp)]
  | none :: r, k, i + 1, env, x, h => by
    rw [eO, eO]
    have := eO_lt r (k + 1) i env x (by simpa using h)
    rw [show k + 1 + i + 1 = k + (i + 1) + 1 by omega, show k + 1 + i = k + (i + 1) by omega] at this
    exact this
  | some y :: r, k, i + 1, env, x, h => by
    rw [eO, eO, if_pos (by simp; omega), if_pos (by simp)]
    have := eO_lt r (k + 1) i (y :: env) x (by simpa using h)
    rw [show k + 1 + i + 1 = k + (i + 1) + 1 by omega, show k + 1 + i = k + (i + 1) by omega] at this
    exact this
theorem eO_shift (L : Nat → Bool) : ∀ (vals : EnvO) (k : Nat) (env : Env), eO L (k + 1) vals env = eO (fun j => L (j + 1)) k vals env
  | [], _, _ => rfl
  | none :: r, k, env => by rw [eO, eO, eO_shift L r]
  | some x :: r, k, env => by rw [eO, eO, eO_shift L r]
def descB : Effs → Bool
  | [] => true
  | (e, (d, _)) :: r => r.all (fun y => !Nat.beq y.2.1 d || Nat.blt y.1 e) && descB r
theorem bL_congr {L L' : Nat → Bool} {bl : List (Nat × Blk)} {k : Nat} : ∀ effs : Effs, (∀ x ∈ effs, x.2.1 = k → L x.1 = L' x.1) → lk (bL L effs bl) k = lk (bL L' effs bl) k
  | [], _ => rfl
  | (e, (d, B)) :: r, h => by
    have ih := bL_congr (L := L) (L' := L') (bl := bl) (k := k) r fun x hx => h x (List.mem_cons_of_mem _ hx)
    rw [bL, bL]
    by_cases hd : d = k
    · rw [h (e, (d, B)) (by simp) hd]
      cases L' e
      · exact ih
      · simp only [cond_true, lk_cons, ih]
    · cases L e <;> cases L' e <;> simp only [cond_true, cond_false, lk_cons, if_neg hd, ih]
theorem bL_first {L : Nat → Bool} {bl : List (Nat × Blk)} {i d : Nat} {B : Blk} : ∀ effs : Effs, descB effs = true → (i, (d, B)) ∈ effs → L i = true → (∀ x ∈ effs, x.2.1 = d → i < x.1 → L x.1 = false) → (∀ x ∈ effs, x.1 = i → x = (i, (d, B))) → lk (bL L effs bl) d = some B
  | (e, (d', B')) :: r, hd, hm, hi, hl, hu => by
    rw [bL]
    by_cases he : e = i
    · have := hu (e, (d', B')) (by simp) he
      cases this
      rw [hi, cond_true, lk_cons, if_pos rfl]
    · have hm' : (i, (d, B)) ∈ r := by
        rcases List.mem_cons.1 hm with h | h
        · cases h; exact absurd rfl he
        · exact h
      rw [descB, Bool.and_eq_true] at hd
      have ih := bL_first (L := L) (bl := bl) r hd.2 hm' hi (fun x hx => hl x (List.mem_cons_of_mem _ hx)) (fun x hx => hu x (List.mem_cons_of_mem _ hx))
      cases hL : L e with
      | false => exact ih
      | true =>
        rw [cond_true, lk_cons]
        by_cases hdd : d' = d
        · exfalso
          have h1 := List.all_eq_true.1 hd.1 _ hm'
          rw [hdd] at h1
          simp only [Nat.beq_refl, Bool.not_true, Bool.false_or] at h1
          have h2 := hl (e, (d', B')) (by simp) hdd (blt_lt h1)
          rw [hL] at h2; cases h2
        · rw [if_neg hdd]; exact ih
/-- effect e has come, or comes only behind i -/
def gdE (ms : List Nat) (i my e : Nat) : Bool := bitN my e || bitN (ms.getD e 0) i
def cleanN (g : Nat → Bool) : Effs → Nat → Bool
  | [], _ => true
  | (e, (d, _)) :: r, k => (!Nat.beq d k || g e) && cleanN g r k
theorem cleanN_at {g : Nat → Bool} {k : Nat} : ∀ {effs : Effs}, cleanN g effs k = true → ∀ x ∈ effs, x.2.1 = k → g x.1 = true
  | (e, (d, B)) :: r, h, x, hx, hk => by
    rw [cleanN, Bool.and_eq_true] at h
    rcases List.mem_cons.1 hx with rfl | hx
    · have := h.1
      simp only at hk
      rw [hk] at this
      simpa using this
    · exact cleanN_at h.2 x hx hk
theorem cleanN_no {g : Nat → Bool} {k : Nat} : ∀ {effs : Effs}, cleanN g effs k = false → ∃ x ∈ effs, x.2.1 = k ∧ g x.1 = false
  | (e, (d, B)) :: r, h => by
    rw [cleanN, Bool.and_eq_false_iff] at h
    rcases h with h | h
    · simp only [Bool.or_eq_false_iff, Bool.not_eq_false'] at h
      exact ⟨_, List.mem_cons_self .., Nat.eq_of_beq_eq_true h.1, h.2⟩
    · obtain ⟨x, h1, h2⟩ := cleanN_no h
      exact ⟨x, List.mem_cons_of_mem _ h1, h2⟩
def filN (p : Nat → Bool) : List (Nat × Blk) → List (Nat × Blk)
  | [] => []
  | (k, B) :: r => bif p k then (k, B) :: filN p r else filN p r
theorem lk_filN {p : Nat → Bool} {k : Nat} : ∀ l : List (Nat × Blk), lk (filN p l) k = if p k = true then lk l k else none
  | [] => by simp [filN, lk]
  | (t, B) :: r => by
    have ih := lk_filN (p := p) (k := k) r
    rw [filN]
    by_cases h : t = k
    · subst h
      cases hp : p t <;> simp [ih, lk_cons, hp]
    · cases hp : p t <;> simp [ih, lk_cons, h]
/-- What an operation can lean on: the blocks that are as1 they will be. -/
def bM (ms : List Nat) (i my : Nat) (effs : Effs) (bl : List (Nat × Blk)) : List (Nat × Blk) := filN (cleanN (gdE ms i my) effs) (bL (bitN my) effs bl)
theorem lk_bM {ms : List Nat} {i my : Nat} {effs : Effs} {bl : List (Nat × Blk)} {k : Nat} : lk (bM ms i my effs bl) k = if cleanN (gdE ms i my) effs k = true then lk (bL (bitN my) effs bl) k else none := lk_filN _
def chainB (ms : List Nat) (effs : Effs) : Bool := effs.all fun x => effs.all fun y => !Nat.beq x.2.1 y.2.1 || !Nat.blt x.1 y.1 || bitN (ms.getD y.1 0) x.1
structure EffsS (ms : List Nat) (effs : Effs) : Prop where
  ix : ∀ e d B d' B', (e, (d, B)) ∈ effs → (e, (d', B')) ∈ effs → d = d' ∧ B = B'
  desc : descB effs = true
  chain : ∀ x ∈ effs, ∀ y ∈ effs, x.2.1 = y.2.1 → x.1 < y.1 → bitN (ms.getD y.1 0) x.1 = true
theorem EffsS.of {ms : List Nat} {effs : Effs} (h1 : ndB (effs.map (·.1)) = true) (h2 : descB effs = true) (h3 : chainB ms effs = true) : EffsS ms effs where
  ix e d B d' B' a b := by have := ndB_inj h1 _ a _ b rfl; cases this; exact ⟨rfl, rfl⟩
  desc := h2
  chain x hx y hy hd hlt := by
    have := List.all_eq_true.1 (List.all_eq_true.1 h3 x hx) y hy
    rw [hd, Nat.beq_refl] at this
    have hb : Nat.blt x.1 y.1 = true := by simp [Nat.blt_eq]; exact hlt
    rw [hb] at this
    simpa using this
def orderOkS (l : List Oper) (ms : List Nat) (tss : List (List Nat)) : Bool :=
  (List.range l.length).all fun y =>
    let o := l.getD y default
    let my := ms.getD y 0
    (deps o).all (fun j => Nat.blt j y) &&
    Nat.beq my ((deps o).foldl (fun s j => s ||| 2 ^ j ||| ms.getD j 0) 0) &&
    ((tss.getD y []).all (fun t => (looks l.toArray o).any (Nat.beq t) || unwr l t) && (List.range y).all (fun x => !clash l.toArray (l.getD x default) o || my.testBit x))
section
variable {l : List Oper} {ms : List Nat} {tss : List (List Nat)}
theorem orderOkS_at (h : orderOkS l ms tss = true) {y : Nat} {o : Oper} (hy : l[y]? = some o) :
    (∀ j ∈ deps o, j < y) ∧ (∀ j, (ms.getD y 0).testBit j = true → ∃ d ∈ deps o, j = d ∨ (ms.getD d 0).testBit j = true) ∧
    (∀ t ∈ tss.getD y [], t ∈ looks l.toArray o ∨ ∀ (j : Nat) (ox : Oper), l[j]? = some ox → ox.dst ≠ some t) ∧ ∀ x ox, x < y → l[x]? = some ox → clash l.toArray ox o = true → (ms.getD y 0).testBit x = true := by
  have hlt := (List.getElem?_eq_some_iff.1 hy).1
  have h0 := List.all_eq_true.1 h y (List.mem_range.2 hlt)
  have hg : l.getD y default = o := by simp [List.getD, hy]
  simp only [hg, Bool.and_eq_true] at h0
  obtain ⟨⟨h1, h2⟩, h3, h4⟩ := h0
  refine ⟨fun j hj => blt_lt (List.all_eq_true.1 h1 j hj), fun j hj => ?_, fun t ht => ?_, fun x ox hx hox hc => ?_⟩
  · rw [Nat.eq_of_beq_eq_true h2] at hj
    rcases fold_bit ms _ _ _ hj with h | h
    · simp at h
    · exact h
  · have h5 := List.all_eq_true.1 h3 t ht
    rw [Bool.or_eq_true] at h5
    rcases h5 with h5 | h5
    · obtain ⟨z, hz, he⟩ := List.any_eq_true.1 h5
      exact .inl (by rw [Nat.eq_of_beq_eq_true he]; exact hz)
    · exact .inr fun j ox hj => unwr_at h5 hj
  · have := List.all_eq_true.1 h4 x (List.mem_range.2 hx)
    have hgx : l.getD x default = ox := by simp [List.getD, hox]
    rw [hgx, hc] at this
    simpa using this
theorem closed_ancS (h : orderOkS l ms tss = true) {L : Nat → Bool} (hc : Closed l L) : ∀ (y : Nat) (o : Oper), l[y]? = some o → (∀ j ∈ deps o, L j = true) → ∀ x, (ms.getD y 0).testBit x = true → L x = true := by
  intro y
  induction y using Nat.strongRecOn with
  | _ y ih =>
    intro o hy hd x hx
    obtain ⟨h1, h2, _⟩ := orderOkS_at h hy
    obtain ⟨d, hd1, hd2⟩ := h2 x hx
    rcases hd2 with rfl | hd2
    · exact hd _ hd1
    · have hlt := h1 d hd1
      have hyl := (List.getElem?_eq_some_iff.1 hy).1
      have hdl : l[d]? = some (l[d]'(by omega)) := List.getElem?_eq_getElem _
      exact ih d hlt _ hdl (hc d _ hdl (hd d hd1)) x hd2
end
def FreshV (P : Program) (G : Ghost) (n : Nat) (E : Env) (o : Oper) (d : Nat) (B : Blk) (v : AV) : Prop :=
  ∀ E' bl', (∀ t e, lk E t = some e → lk E' t = some e) → lk bl' d = none → EffOp P G (St.mk n E' bl') o (St.mk n ((d, (True, v)) :: E') ((d, B) :: bl'))
def StoreV (P : Program) (G : Ghost) (n : Nat) (E : Env) (o : Oper) (d : Nat) (B B0 : Blk) : Prop :=
  ∀ E' bl', (∀ t e, lk E t = some e → lk E' t = some e) → lk bl' d = some B0 → EffOp P G (St.mk n E' bl') o (St.mk n E' ((d, B) :: bl'))
def StepS (P : Program) (G : Ghost) (ops : Array Oper) (n : Nat) (bl : List (Nat × Blk)) (effs : Effs) (M : List Nat) (i my : Nat) (E : Env) (o : Oper) (d : Nat) (p : Prop) (v : AV) : Prop :=
  (GOk (St.mk n E (bM M i my effs bl)) ops o p ∧ PureOp P G (St.mk n E (bM M i my effs bl)) o p v ∧ (∀ x ∈ effs, x.1 ≠ i) ∧ ∀ x ∈ effs, gdE M i my x.1 = false → ∀ t e, lk E t = some e → e.2.ment x.2.1 = false) ∨
  (GOk (St.mk n [] []) ops o True ∧ p = True ∧ ∃ B, (i, (d, B)) ∈ effs ∧ (∀ x ∈ effs, x.2.1 = d → ¬ x.1 < i) ∧ lk bl d = none ∧ FreshV P G n E o d B v)
def StepW (P : Program) (G : Ghost) (ops : Array Oper) (n : Nat) (bl : List (Nat × Blk)) (effs : Effs) (i : Nat) (E : Env) (o : Oper) : Prop :=
  GOk (St.mk n [] []) ops o True ∧ ∃ d B B0, (i, (d, B)) ∈ effs ∧ lk (bL (fun e => decide (e < i)) effs bl) d = some B0 ∧ StoreV P G n E o d B B0
def LexS (P : Program) (G : Ghost) (ops : Array Oper) (n : Nat) (bl : List (Nat × Blk)) (effs : Effs) (M : List Nat) : List Oper → Nat → List (List Nat) → List Nat → Env → (Env → Prop) → Prop
  | [], _, _, _, env, K => K env
  | o :: rest, i, tss, ms, env, K =>
    (∃ d p v, o.dst = some d ∧ d < n ∧ StepS P G ops n bl effs M i (ms.headD 0) (only (tss.headD []) env) o d p v ∧ LexS P G ops n bl effs M rest (i + 1) tss.tail ms.tail ((d, (p, v)) :: env) K) ∨
    (o.dst = none ∧ StepW P G ops n bl effs i (only (tss.headD []) env) o ∧ LexS P G ops n bl effs M rest (i + 1) tss.tail ms.tail env K)
section
variable {P : Program} {G : Ghost} {ops : Array Oper} {n : Nat} {bl : List (Nat × Blk)} {effs : Effs} {M : List Nat}
def StepAt (P : Program) (G : Ghost) (ops : Array Oper) (n : Nat) (bl : List (Nat × Blk)) (effs : Effs) (M : List Nat) (i k : Nat) (ms : List Nat) (tss : List (List Nat)) (vals : EnvO) (env : Env) (o : Oper) : Prop :=
  (∃ d p v, vals[k]? = some (some (d, (p, v))) ∧ o.dst = some d ∧ d < n ∧ StepS P G ops n bl effs M i (ms.getD k 0) (only (tss.getD k []) (eO (fun j => decide (j < k)) 0 vals env)) o d p v) ∨
  (vals[k]? = some none ∧ o.dst = none ∧ StepW P G ops n bl effs i (only (tss.getD k []) (eO (fun j => decide (j < k)) 0 vals env)) o)
theorem LexS.vals : ∀ {l : List Oper} {i0 : Nat} {tss : List (List Nat)} {ms : List Nat} {env : Env} {K : Env → Prop}, LexS P G ops n bl effs M l i0 tss ms env K →
    ∃ vals : EnvO, vals.length = l.length ∧ K (eO (fun _ => true) 0 vals env) ∧ ∀ k o, l[k]? = some o → StepAt P G ops n bl effs M (i0 + k) k ms tss vals env o
  | [], i0, tss, ms, env, K, h => ⟨[], rfl, h, fun i o hi => by simp at hi⟩
  | o :: rest, i0, tss, ms, env, K, h => by
    have ht : tss.getD 0 [] = tss.headD [] := by cases tss <;> rfl
    have hm : ms.getD 0 0 = ms.headD 0 := by cases ms <;> rfl
    have hts : ∀ i, tss.getD (i + 1) [] = tss.tail.getD i [] := fun i => by cases tss <;> simp
    have hms : ∀ i, ms.getD (i + 1) 0 = ms.tail.getD i 0 := fun i => by cases ms <;> simp
    have hfalse : (fun j => decide (j < 0)) = fun _ : Nat => false := by funext j; simp
    rcases h with ⟨d, p, v, h1, h2, h3, h5⟩ | ⟨h1, h3, h5⟩
    · obtain ⟨vals, g1, g2, g3⟩ := LexS.vals h5
      refine ⟨some (d, (p, v)) :: vals, by simp [g1], ?_, fun k o' hi => ?_⟩
      · rw [eO, if_pos rfl, eO_shift]; exact g2
      · cases k with
        | zero =>
          simp at hi; subst hi
          refine .inl ⟨d, p, v, rfl, h1, h2, ?_⟩
          rw [hfalse, eO_none, ht, hm]
          exact h3
        | succ k =>
          have := g3 k o' (by simpa using hi)
          unfold StepAt at this ⊢
          rw [hts, hms, eO, if_pos (by simp), eO_shift, show (fun j => decide (j + 1 < k + 1)) = fun j => decide (j < k) by funext j; simp, show i0 + (k + 1) = i0 + 1 + k by omega, List.getElem?_cons_succ]
          exact this
    · obtain ⟨vals, g1, g2, g3⟩ := LexS.vals h5
      refine ⟨none :: vals, by simp [g1], ?_, fun k o' hi => ?_⟩
      · rw [eO, eO_shift]; exact g2
      · cases k with
        | zero =>
          simp at hi; subst hi
          refine .inr ⟨rfl, h1, ?_⟩
          rw [hfalse, eO_none, ht]
          exact h3
        | succ k =>
          have := g3 k o' (by simpa using hi)
          unfold StepAt at this ⊢
          rw [hts, hms, eO, eO_shift, show (fun j => decide (j + 1 < k + 1)) = fun j => decide (j < k) by funext j; simp, show i0 + (k + 1) = i0 + 1 + k by omega, List.getElem?_cons_succ]
          exact this
theorem lexS {l : List Oper} {ms : List Nat} {tss : List (List Nat)} (hok : orderOkS l ms tss = true) {vals : EnvO} {env : Env} {Φ0 : Frz} {Q' : Exit → Act → World → Prop} (hvl : vals.length = l.length) (ho : EffsS ms effs)
    (hv : ∀ i o, l[i]? = some o → StepAt P G l.toArray n bl effs ms i i ms tss vals env o)
    (hin : ∀ x ∈ effs, x.1 < l.length)
    (hq : ∀ Φ' β' a' w', Sat G Φ' β' (St.mk n (eO (fun _ => true) 0 vals env) (bL (fun _ => true) effs bl)) a' w' → Φ0.le Φ' → Q' .normal a' w') :
    ∀ (fuel : Nat) (L : Array Bool) (Φ : Frz) (β : Own) (a : Act) (w : World), fuel = un (fun j => L.getD j true) l.length → L.size = l.length → Closed l (fun j => L.getD j false) → Φ0.le Φ →
      Sat G Φ β (St.mk n (eO (fun j => L.getD j false) 0 vals env) (bL (fun j => L.getD j false) effs bl)) a w → wpAny P .any l.toArray Q' fuel L a w := by
  intro fuel
  induction fuel with
  | zero =>
    intro L Φ β a w hf hs hcl hle hsat
    have hall := un_zero _ hf.symm
    have hallf : ∀ j, j < l.length → L.getD j false = true := fun j hj => by
      have := hall j hj
      rw [Array.getD_eq_getD_getElem?, Array.getElem?_eq_getElem (by omega)] at this ⊢; exact this
    have hb : ∀ k, lk (bL (fun _ => true) effs bl) k = lk (bL (fun j => L.getD j false) effs bl) k := fun k => bL_congr effs fun x hx _ => (hallf x.1 (hin x hx)).symm
    refine ⟨List.eq_nil_iff_forall_not_mem.2 fun i hi => ?_, hq Φ β a w (hsat.subB (fun k C hk => by rw [← hb]; exact hk) fun t q v h => ⟨?_, fun k hk => hb k⟩) hle⟩
    · obtain ⟨o, h1, h2, _⟩ := mem_ready' hi
      have := hall i (List.getElem?_eq_some_iff.1 h1).1
      rw [h2] at this; cases this
    · rw [← h]
      refine eO_congr vals 0 env env rfl fun j x hj hx => ?_
      have hjl : j < l.length := by have := (List.getElem?_eq_some_iff.1 hj).1; omega
      simp only [Nat.zero_add]; exact hallf j hjl
  | succ fuel ih =>
    intro L Φ β a w hf hs hcl hle hsat
    have hLf : ∀ j, j < l.length → L.getD j false = L.getD j true := fun j hj => by
      rw [Array.getD_eq_getD_getElem?, Array.getD_eq_getD_getElem?, Array.getElem?_eq_getElem (by omega)]; rfl
    have hpre : ¬ ∀ j, j < l.length → L.getD j true = true := fun h => by
      rw [un_congr (L' := fun _ => true) _ (fun j hj => h j hj)] at hf
      have : ∀ k, un (fun _ => true) k = 0 := fun k => by induction k with | zero => rfl | succ k ihk => rw [un, ihk]; rfl
      rw [this] at hf; omega
    have hex : ∃ y, y < l.length ∧ L.getD y true = false ∧ ∀ j, j < y → L.getD j true = true := by
      have : ∃ j, j < l.length ∧ L.getD j true = false := by
        refine Classical.byContradiction fun hno => hpre fun j hj => ?_
        cases hb : L.getD j true with
        | true => rfl
        | false => exact absurd ⟨j, hj, hb⟩ hno
      obtain ⟨j0, hj0, hb0⟩ := this
      have key : ∀ k, k ≤ l.length → (∀ j, j < k → L.getD j true = true) ∨ ∃ y, y < l.length ∧ L.getD y true = false ∧ ∀ j, j < y → L.getD j true = true := by
        intro k
        induction k with
        | zero => intro _; exact .inl fun j hj => by omega
        | succ k ihk =>
          intro hk
          rcases ihk (by omega) with h | h
          · cases hb : L.getD k true with
            | true =>
              refine .inl fun j hj => ?_
              by_cases e : j = k
              · rw [e]; exact hb
              · exact h j (by omega)
            | false => exact .inr ⟨k, by omega, hb, h⟩
          · exact .inr h
      rcases key l.length (Nat.le_refl _) with h | h
      · have := h j0 hj0; rw [hb0] at this; cases this
      · exact h
    obtain ⟨y, hylen, hyu, hyl⟩ := hex
    refine ⟨fun hr => ?_, fun i hi => ?_⟩
    · exfalso
      have hmem : y ∈ Region.ready .any l.toArray L := ready_mk (o := l[y]) (List.getElem?_eq_getElem _) hyu (fun j hj => by
        have := (orderOkS_at hok (List.getElem?_eq_getElem hylen)).1 j hj
        rw [hLf j (by omega)]; exact hyl j this)
      rw [hr] at hmem; cases hmem
    · obtain ⟨o, h1, h2, h3⟩ := mem_ready' hi
      have hil := (List.getElem?_eq_some_iff.1 h1).1
      obtain ⟨_, _, hlooks, hord⟩ := orderOkS_at hok h1
      have hLi : L.getD i false = false := by rw [hLf i hil]; exact h2
      have anc : ∀ e, bitN (ms.getD i 0) e = true → L.getD e false = true := fun e he => closed_ancS hok hcl i o h1 h3 e (by rw [← bitN_eq]; exact he)
      have later : ∀ x ∈ effs, ∀ d B, (i, (d, B)) ∈ effs → x.2.1 = d → i < x.1 → L.getD x.1 false = false := fun x hx d B hB hd hlt => by
        cases hb : L.getD x.1 false with
        | false => rfl
        | true =>
          have hxl := hin x hx
          have hox : l[x.1]? = some (l[x.1]'hxl) := List.getElem?_eq_getElem _
          have hc := ho.chain (i, (d, B)) hB x hx hd.symm hlt
          have := closed_ancS hok hcl x.1 _ hox (hcl x.1 _ hox hb) i (by rw [← bitN_eq]; exact hc)
          have this : L.getD i false = true := this
          rw [hLi] at this; cases this
      have earlier : ∀ x ∈ effs, ∀ d B, (i, (d, B)) ∈ effs → x.2.1 = d → x.1 < i → L.getD x.1 false = true := fun x hx d B hB hd hlt => anc _ (ho.chain x hx (i, (d, B)) hB hd hlt)
      have same : ∀ x ∈ effs, ∀ d B, (i, (d, B)) ∈ effs → x.1 = i → x = (i, (d, B)) := fun x hx d B hB he => by
        obtain ⟨e, d', B'⟩ := x
        simp only at he; subst he
        obtain ⟨h4, h5⟩ := ho.ix _ _ _ _ _ hx hB
        rw [h4, h5]
      -- who writes what this operation looks at
      have before : ∀ j x, vals[j]? = some (some x) → (x.1 ∈ looks l.toArray o ∨ o.dst = some x.1) → j ≠ i → L.getD j false = decide (j < i) := fun j x hj hx hne => by
        have hjl : j < l.length := by have := (List.getElem?_eq_some_iff.1 hj).1; omega
        have hoj : l[j]? = some l[j] := List.getElem?_eq_getElem _
        have q2 : (l[j]).dst = some x.1 := by
          rcases hv j l[j] hoj with ⟨dj, pj, vj, q1, q2, _⟩ | ⟨q1, _⟩
          · rw [hj] at q1
            obtain rfl := Option.some.inj (Option.some.inj q1)
            exact q2
          · rw [hj] at q1; cases q1
        rcases Nat.lt_or_ge j i with hlt | hge
        · have hc : clash l.toArray l[j] o = true := by
            unfold clash
            rw [q2]
            rcases hx with hx | hx
            · have : (looks l.toArray o).any (Nat.beq x.1) = true := List.any_eq_true.2 ⟨x.1, hx, Nat.beq_refl _⟩
              simp [this]
            · rw [hx]; simp
          have := closed_ancS hok hcl i o h1 h3 j (hord j _ hlt hoj hc)
          have this : L.getD j false = true := this
          rw [this]; simp [hlt]
        · have hgt : i < j := by omega
          have hc : clash l.toArray o l[j] = true := by
            unfold clash
            rw [q2]
            rcases hx with hx | hx
            · have : (looks l.toArray o).any (Nat.beq x.1) = true := List.any_eq_true.2 ⟨x.1, hx, Nat.beq_refl _⟩
              simp [this]
            · rw [hx]; simp
          cases hb : L.getD j false with
          | false => simp; omega
          | true =>
            exfalso
            have hordj := (orderOkS_at hok hoj).2.2.2 i o hgt h1 hc
            have := closed_ancS hok hcl j _ hoj (hcl j _ hoj hb) i hordj
            have this : L.getD i false = true := this
            rw [hLi] at this; cases this
      have hsame : ∀ t e, lk (only (tss.getD i []) (eO (fun j => decide (j < i)) 0 vals env)) t = some e → lk (eO (fun j => L.getD j false) 0 vals env) t = some e := fun t e h => by
        obtain ⟨ht, he⟩ := lk_only h
        rw [← he]
        refine eO_congr vals 0 env env rfl fun j x hj hx => ?_
        simp only [Nat.zero_add]
        by_cases hji : j = i
        · subst hji; rw [hLi]; simp
        · rcases hlooks t ht with hl1 | hl2
          · exact before j x hj (.inl (by rw [hx]; exact hl1)) hji
          · exfalso
            have hjl : j < l.length := by have := (List.getElem?_eq_some_iff.1 hj).1; omega
            have hoj : l[j]? = some (l[j]'hjl) := List.getElem?_eq_getElem _
            rcases hv j _ hoj with ⟨dj, pj, vj, q1, q2, _⟩ | ⟨q1, _⟩
            · rw [hj] at q1
              obtain rfl := Option.some.inj (Option.some.inj q1)
              exact hl2 j _ hoj (by rw [q2]; simp only at hx; rw [hx])
            · rw [hj] at q1; cases q1
      have hne : ∀ j, j ≠ i → ∀ b, (L.setIfInBounds i true).getD j b = L.getD j b := fun j hj b => getD_set_ne b (Ne.symm hj)
      have heq : ∀ b, (L.setIfInBounds i true).getD i b = true := fun b => by rw [Array.getD_eq_getD_getElem?, Array.getElem?_setIfInBounds_self_of_lt (by omega)]; rfl
      have next : ∀ (Φ' : Frz) (β' : Own) (a' : Act) (w' : World) (env' : Env) (bl' : List (Nat × Blk)), Φ.le Φ' → Sat G Φ' β' (St.mk n env' bl') a' w' → (∀ t e, lk (eO (fun j => (L.setIfInBounds i true).getD j false) 0 vals env) t = some e → lk env' t = some e) → (∀ k, lk (bL (fun j => (L.setIfInBounds i true).getD j false) effs bl) k = lk bl' k) → wpAny P .any l.toArray Q' fuel (L.setIfInBounds i true) a' w' := fun Φ' β' a' w' env' bl' hle' hsat' henv hbl => by
        refine ih _ Φ' β' a' w' ?_ (by simpa using hs) (fun y' o' hy' hL' j hj => ?_) (Frz.le_trans hle hle') (hsat'.subB (fun k C h => by rw [← hbl]; exact h) fun t q v' h => ⟨henv t _ h, fun k _ => hbl k⟩)
        · have := un_set (L := fun j => L.getD j true) (L' := fun j => (L.setIfInBounds i true).getD j true) (i := i) h2 (heq true) (fun j hj => hne j hj true) l.length hil
          omega
        · by_cases e1 : j = i
          · subst e1; exact heq false
          · show (L.setIfInBounds i true).getD j false = true
            rw [hne j e1]
            by_cases e2 : y' = i
            · subst e2
              rw [h1] at hy'
              obtain rfl := Option.some.inj hy'
              exact h3 j hj
            · have hL'' : L.getD y' false = true := by rw [← hne y' e2 false]; exact hL'
              exact hcl y' o' hy' hL'' j hj
      have hnil : Sat G Φ β (St.mk n [] []) a w := hsat.subB (fun k C h => by simp [lk] at h) (fun t q v h => by simp [lk] at h)
      -- the blocks when effect i has come
      have hblE : ∀ d B, (i, (d, B)) ∈ effs → ∀ k, lk (bL (fun j => (L.setIfInBounds i true).getD j false) effs bl) k = lk ((d, B) :: bL (fun j => L.getD j false) effs bl) k := fun d B hB k => by
        rw [lk_cons]
        by_cases e : d = k
        · subst e
          rw [if_pos rfl]
          refine bL_first effs ho.desc hB (heq false) (fun x hx hd hlt => ?_) (fun x hx he => same x hx d B hB he)
          show (L.setIfInBounds i true).getD x.1 false = false
          rw [hne x.1 (by omega)]
          exact later x hx d B hB hd hlt
        · rw [if_neg e]
          refine bL_congr effs fun x hx hd => ?_
          refine hne x.1 (fun he => ?_) false
          have := same x hx d B hB he
          rw [this] at hd
          exact e hd
      unfold wpOp
      have hio : l.toArray[i]? = some o := by simpa using h1
      simp only [hio]
      rcases hv i o h1 with ⟨d, p, v, g1, g2, g3, g4⟩ | ⟨g1, g2, hg, d, B, B0, hB, hB0, hst⟩
      · have envn : ∀ t e, lk (eO (fun j => (L.setIfInBounds i true).getD j false) 0 vals env) t = some e → lk ((d, (p, v)) :: eO (fun j => L.getD j false) 0 vals env) t = some e := fun t e h => by
          by_cases e1 : t = d
          · subst e1
            have hl1 : lk (eO (fun j => (L.setIfInBounds i true).getD j false) 0 vals env) t = lk (eO (fun j => decide (j < 0 + i + 1)) 0 vals env) t := eO_congr vals 0 env env rfl fun j x hj hx => by
              simp only [Nat.zero_add]
              by_cases hji : j = i
              · subst hji; rw [heq]; simp
              · rw [hne j hji, before j x hj (.inr (by rw [g2, hx])) hji]
                simp only [decide_eq_decide]; omega
            rw [hl1, eO_lt vals 0 i env _ g1, lk_cons, if_pos rfl] at h
            rw [lk_cons, if_pos rfl]; exact h
          · rw [lk_cons, if_neg (Ne.symm e1), ← h]
            refine eO_congr vals 0 env env rfl fun j x hj hx => ?_
            simp only [Nat.zero_add]
            by_cases hji : j = i
            · subst hji
              rw [hj] at g1
              obtain rfl := Option.some.inj (Option.some.inj g1)
              exact absurd hx.symm e1
            · rw [hne j hji]
        rcases g4 with ⟨g4, g5, hoff, g6⟩ | ⟨hg, rfl, B, hB, hfst, hfr, hfresh⟩
        · have full : ∀ k, cleanN (gdE ms i (ms.getD i 0)) effs k = true → lk (bL (bitN (ms.getD i 0)) effs bl) k = lk (bL (fun j => L.getD j false) effs bl) k := fun k hk => bL_congr effs fun x hx hd => by
            have := cleanN_at hk x hx hd
            unfold gdE at this
            cases hb : bitN (ms.getD i 0) x.1 with
            | true => rw [anc _ hb]
            | false =>
              rw [hb, Bool.false_or] at this
              cases hL : L.getD x.1 false with
              | false => rfl
              | true =>
                have hxl := hin x hx
                have hox : l[x.1]? = some (l[x.1]'hxl) := List.getElem?_eq_getElem _
                have := closed_ancS hok hcl x.1 _ hox (hcl x.1 _ hox hL) i (by rw [← bitN_eq]; exact this)
                have this : L.getD i false = true := this
                rw [hLi] at this; cases this
          have incl : ∀ k C, lk (bM ms i (ms.getD i 0) effs bl) k = some C → lk (bL (fun j => L.getD j false) effs bl) k = some C := fun k C hk => by
            rw [lk_bM] at hk
            split at hk
            · rename_i hc; rw [← full k hc]; exact hk
            · cases hk
          have hsub : Sat G Φ β (St.mk n (only (tss.getD i []) (eO (fun j => decide (j < i)) 0 vals env)) (bM ms i (ms.getD i 0) effs bl)) a w := hsat.subB incl fun t q v hl => ⟨hsame t _ hl, fun k hk => by
            cases hc : cleanN (gdE ms i (ms.getD i 0)) effs k with
            | true => rw [lk_bM, if_pos hc]; exact full k hc
            | false =>
              obtain ⟨x, hx, hd, hb⟩ := cleanN_no hc
              have := g6 x hx hb t _ hl
              rw [hd, hk] at this; cases this⟩
          have hw := g4 G Φ β a w hsub
          have hbl : ∀ k, lk (bL (fun j => (L.setIfInBounds i true).getD j false) effs bl) k = lk (bL (fun j => L.getD j false) effs bl) k := fun k => bL_congr effs fun x hx _ => hne x.1 (hoff x hx) false
          by_cases hpp : p
          · rw [if_pos (hw.2 hpp)]
            refine .inl (Oper.wp_mono' (g5 Φ β a w hsub hpp) (fun a' w' ⟨x, Φ', ha, hvv, hle', heq', hf', hb⟩ => ?_) (fun _ _ _ h => h.elim))
            subst ha
            rw [g2]
            exact next Φ' β _ w' _ _ hle' (hsat.set hle' heq' hf' hb g3 (fun _ => hvv.sup incl) (fun hx => (hx hpp).elim)) envn hbl
          · rw [if_neg (fun hx => hpp (hw.1 hx)), g2]
            exact next Φ β _ w _ _ Φ.le_refl (hsat.set Φ.le_refl (fun _ _ => rfl) hsat.fits (Below.refl _ _) g3 (fun hx => (hpp hx).elim) (fun _ => rfl)) envn hbl
        · rw [if_pos ((hg G Φ β a w hnil).2 trivial)]
          have hnone : lk (bL (fun j => L.getD j false) effs bl) d = none := by
            rw [bL_congr (L' := fun _ => false) effs fun x hx hd => ?_, show bL (fun _ => false) effs bl = bl by rw [bL_eq, List.filter_eq_nil_iff.2 fun x _ => by simp]; rfl]
            · exact hfr
            · have h6 := hfst x hx hd
              by_cases h7 : x.1 = i
              · rw [h7]; exact hLi
              · exact later x hx d B hB hd (by omega)
          refine .inl (Oper.wp_mono' (hfresh _ _ hsame hnone Φ β a w hsat) (fun a' w' ⟨Φ', β', hs', hle'⟩ => ?_) (fun _ _ _ h => h.elim))
          exact next Φ' β' a' w' _ _ hle' hs' envn (hblE d B hB)
      · rw [if_pos ((hg G Φ β a w hnil).2 trivial)]
        have hB0' : lk (bL (fun j => L.getD j false) effs bl) d = some B0 := by
          rw [← hB0]
          refine bL_congr effs fun x hx hd => ?_
          by_cases h7 : x.1 < i
          · rw [earlier x hx d B hB hd h7]; simp [h7]
          · by_cases h8 : x.1 = i
            · rw [h8, hLi]; simp
            · rw [later x hx d B hB hd (by omega)]; simp [h7]
        refine .inl (Oper.wp_mono' (hst _ _ hsame hB0' Φ β a w hsat) (fun a' w' ⟨Φ', β', hs', hle'⟩ => ?_) (fun _ _ _ h => h.elim))
        refine next Φ' β' a' w' _ _ hle' hs' (fun t e h => ?_) (hblE d B hB)
        rw [← h]
        refine eO_congr vals 0 env env rfl fun j x hj hx => ?_
        simp only [Nat.zero_add]
        by_cases hji : j = i
        · subst hji; rw [hj] at g1; cases g1
        · rw [hne j hji]
def fndE : Effs → Nat → Option (Nat × Blk)
  | [], _ => none
  | (e, x) :: r, i => bif Nat.beq e i then some x else fndE r i
theorem fndE_mem {i : Nat} {x : Nat × Blk} : ∀ {effs : Effs}, fndE effs i = some x → (i, x) ∈ effs
  | (e, y) :: r, h => by
    rw [fndE] at h
    cases hb : Nat.beq e i with
    | true =>
      rw [hb, cond_true] at h
      cases h
      rw [Nat.eq_of_beq_eq_true hb]; simp
    | false =>
      rw [hb, cond_false] at h
      exact List.mem_cons_of_mem _ (fndE_mem h)
def fstB (effs : Effs) (i d : Nat) : Bool := effs.all fun x => !Nat.beq x.2.1 d || !Nat.blt x.1 i
theorem fst_of {i d : Nat} (h : fstB effs i d = true) : ∀ x ∈ effs, x.2.1 = d → ¬ x.1 < i := fun x hx hd hlt => by
  have := List.all_eq_true.1 h x hx
  have hb : Nat.blt x.1 i = true := by simp [Nat.blt_eq]; exact hlt
  rw [hd, Nat.beq_refl, hb] at this
  simp at this
def cleanG (g : Nat → Bool) : Effs → Env → Bool
  | [], _ => true
  | (e, (d, _)) :: r, E => (g e || noMent d E) && cleanG g r E
theorem cleanG_of {g : Nat → Bool} {E : Env} : ∀ {effs : Effs}, cleanG g effs E = true → ∀ x ∈ effs, g x.1 = false → ∀ t e, lk E t = some e → e.2.ment x.2.1 = false
  | (e0, (d0, B0)) :: r, h, x, hx, hb, t, e, hl => by
    rw [cleanG, Bool.and_eq_true] at h
    rcases List.mem_cons.1 hx with rfl | hx
    · have h1 := h.1
      simp only at hb
      rw [hb, Bool.false_or, noMent_eq] at h1
      have := List.all_eq_true.1 h1 _ (lk_mem hl)
      simpa using this
    · exact cleanG_of h.2 x hx hb t e hl
def NB (l m : List (Nat × Blk)) : Prop := l = m
theorem NB.nil {l : List (Nat × Blk)} (h : l = []) : NB l [] := h
theorem NB.cons {l r m : List (Nat × Blk)} {x : Nat × Blk} (h : l = x :: r) (h' : NB r m) : NB l (x :: m) := by
  have e : r = m := h'
  subst e; exact h
theorem LexS.nil {i : Nat} {tss : List (List Nat)} {ms : List Nat} {env : Env} {K : Env → Prop} (h : K env) : LexS P G ops n bl effs M [] i tss ms env K := h
theorem LexS.u {i my d : Nat} {op : Op} {ty : TypeId} {pos : String} {after : Array Edge} {ts : List Nat} {tss : List (List Nat)} {ms : List Nat} {rest : List Oper} {env : Env} {K : Env → Prop} {v : AV}
    {bE : List (Nat × Blk)} (hb : NB (bM M i my effs bl) bE) (hp : PureOp P G (St.mk n (only ts env) bE) ⟨some d, op, ty, pos, after, none⟩ True v) (hn : Nat.blt d n = true) (ho : offB effs i = true) (hc : cleanG (gdE M i my) effs (only ts env) = true) (h : LexS P G ops n bl effs M rest (i + 1) tss ms ((d, (True, v)) :: env) K) : LexS P G ops n bl effs M (⟨some d, op, ty, pos, after, none⟩ :: rest) i (ts :: tss) (my :: ms) env K :=
  .inl ⟨d, True, v, rfl, blt_lt hn, .inl ⟨GOk.none rfl, by have e : bM M i my effs bl = bE := hb; subst e; exact hp, off_of ho, cleanG_of hc⟩, h⟩
/-- new memory -/
theorem LexS.f {i my d : Nat} {B : Blk} {op : Op} {ty : TypeId} {pos : String} {after : Array Edge} {ts : List Nat} {tss : List (List Nat)} {ms : List Nat} {rest : List Oper} {env : Env} {K : Env → Prop} {v : AV}
    (hk : fndE effs i = some (d, B)) (hp : FreshV P G n (only ts env) ⟨some d, op, ty, pos, after, none⟩ d B v) (hn : Nat.blt d n = true) (h1 : fstB effs i d = true) (h2 : lk bl d = none) (h : LexS P G ops n bl effs M rest (i + 1) tss ms ((d, (True, v)) :: env) K) : LexS P G ops n bl effs M (⟨some d, op, ty, pos, after, none⟩ :: rest) i (ts :: tss) (my :: ms) env K :=
  .inl ⟨d, True, v, rfl, blt_lt hn, .inr ⟨GOk.none rfl, rfl, B, fndE_mem hk, fst_of h1, h2, hp⟩, h⟩
/-- a store -/
theorem LexS.s {i my d : Nat} {B B0 : Blk} {op : Op} {ty : TypeId} {pos : String} {after : Array Edge} {ts : List Nat} {tss : List (List Nat)} {ms : List Nat} {rest : List Oper} {env : Env} {K : Env → Prop}
    (hk : fndE effs i = some (d, B)) (hB0 : lk (bL (fun e => Nat.blt e i) effs bl) d = some B0) (hp : StoreV P G n (only ts env) ⟨none, op, ty, pos, after, none⟩ d B B0) (h : LexS P G ops n bl effs M rest (i + 1) tss ms env K) : LexS P G ops n bl effs M (⟨none, op, ty, pos, after, none⟩ :: rest) i (ts :: tss) (my :: ms) env K :=
  .inr ⟨rfl, ⟨GOk.none rfl, d, B, B0, fndE_mem hk, by
    rw [← hB0]
    exact bL_congr effs fun x _ _ => by
      by_cases h : x.1 < i
      · have hb : Nat.blt x.1 i = true := by simp [Nat.blt_eq]; exact h
        rw [hb]; simp [h]
      · have hb : Nat.blt x.1 i = false := by
          cases hb : Nat.blt x.1 i with
          | false => rfl
          | true => exact absurd (blt_lt hb) h
        rw [hb]; simp [h], hp⟩, h⟩
theorem Ev.more {E E' : Env} {b b' : List (Nat × Blk)} {p : Prop} {x : Operand} {v : AV} (h : ∀ t e, lk E t = some e → lk E' t = some e) : Ev (St.mk n E b) p x v → Ev (St.mk n E' b') p x v := fun ⟨q, h1, h2⟩ => ⟨q, by
  cases x with
  | tmp t => exact h t _ h1
  | const v => exact h1
  | func f => exact h1
  | global g => exact h1, h2⟩
theorem FreshV.alloc {T : Nat → Option TI} (hT : TOK P T) {E : Env} {B : Blk} {t d : Nat} {ti : TI} {ty : TypeId} {pos : String} {after : Array Edge} {gd : Option (Nat × Bool)} (ht : T t = some ti) (hz : ti.zero.cells.length = ti.sz) (hn : Nat.blt d n = true) (hB : (⟨t, ti.sz, [ti.zero.cells]⟩ : Blk) = B) :
    FreshV P G n E ⟨some d, .alloc t, ty, pos, after, gd⟩ d B (.addr d 0 0) := fun E' bl' hs hfr => by
  subst hB
  exact EffOp.fresh hfr (E_alloc hT rfl rfl (blt_lt hn) ht hz)
theorem StoreV.mk {T : Nat → Option TI} (hT : TOK P T) {E : Env} {B B0 : Blk} {t d i off : Nat} {x y : Operand} {ti : TI} {r : List Cell} {q : PV} {ty : TypeId} {pos : String} {after : Array Edge} {gd : Option (Nat × Bool)} (hx : Ev (St.mk n E []) True x (.addr d i off)) (hy : Ev (St.mk n E []) True y (.pv q)) (ht : T t = some ti) (hr : B0.rows[i]? = some r)
    (hq : q.cells.length = ti.sz) (hfit : Nat.ble (off + ti.sz) r.length = true) (hB : ({ B0 with rows := B0.rows.set i (splice r off q.cells) } : Blk) = B) : StoreV P G n E ⟨none, .store t x y, ty, pos, after, gd⟩ d B B0 := fun E' bl' hs hl => by
  subst hB
  exact E_store hT rfl rfl ht (hx.more hs) (hy.more hs) hl hr hq (Nat.le_of_ble_eq_true hfit)
/-- A REGION WHOSE ORDER IS OPEN, with new memory and stores, walked once in the text's order. -/
def descI : List (Nat × Nat) → Bool
  | [] => true
  | (e, d) :: r => r.all (fun y => !Nat.beq y.2 d || Nat.blt y.1 e) && descI r
theorem descB_of : ∀ effs : Effs, descI (effs.map fun x => (x.1, x.2.1)) = true → descB effs = true
  | [], _ => rfl
  | (e, (d, B)) :: r, h => by
    rw [List.map_cons, descI, Bool.and_eq_true] at h
    rw [descB, Bool.and_eq_true]
    refine ⟨?_, descB_of r h.2⟩
    have := h.1
    rw [List.all_map] at this
    exact this
def chainI (ms : List Nat) (ixs : List (Nat × Nat)) : Bool := ixs.all fun x => ixs.all fun y => !Nat.beq x.2 y.2 || !Nat.blt x.1 y.1 || bitN (ms.getD y.1 0) x.1
def sOk (l : List Oper) (ms : List Nat) (tss : List (List Nat)) (ixs : List (Nat × Nat)) : Bool :=
  orderOkS l ms tss && ndB (ixs.map (·.1)) && descI ixs && chainI ms ixs && ixs.all (fun x => Nat.blt x.1 l.length)
theorem W.drawS {id : Nat} {l : List Oper} {env : Env} {Q : Exit → St → Prop} (ms : List Nat) (tss : List (List Nat)) (effs : Effs) (ixs : List (Nat × Nat)) (hm : P.follows .mixedOrders = true) (hk : sOk l ms tss ixs = true) (hix : effs.map (fun x => (x.1, x.2.1)) = ixs)
    (h : LexS P G l.toArray n bl effs ms l 0 tss ms env fun env' => Q .normal (St.mk n env' (effs.map (·.2) ++ bl))) : W P G (.region id l.toArray true) Q (St.mk n env bl) := fun Φ β a w hs => by
  unfold sOk at hk
  simp only [Bool.and_eq_true] at hk
  obtain ⟨⟨⟨⟨hok, h1⟩, h2⟩, h3⟩, h4⟩ := hk
  subst hix
  have h1' : ndB (effs.map (·.1)) = true := by rw [List.map_map] at h1; exact h1
  have h3' : chainB ms effs = true := by
    unfold chainI at h3
    rw [List.all_map] at h3
    refine List.all_eq_true.2 fun x hx => ?_
    have := List.all_eq_true.1 h3 x hx
    simp only [Function.comp] at this
    rw [List.all_map] at this
    exact this
  have h4' : effs.all (fun x => Nat.blt x.1 l.length) = true := by rw [List.all_map] at h4; exact h4
  obtain ⟨vals, v1, v2, v3⟩ := LexS.vals h
  refine wp_region_any hm ?_
  have hsz : l.toArray.size = l.length := by simp
  rw [hsz]
  have hall : bL (fun _ => true) effs bl = effs.map (·.2) ++ bl := by rw [bL_eq, List.filter_eq_self.2 fun x _ => rfl]
  refine lexS hok v1 (EffsS.of h1' (descB_of effs h2) h3') (fun i o ho => ?_) (fun x hx => blt_lt (List.all_eq_true.1 h4' x hx)) (Φ0 := Φ) (fun Φ' β' a' w' q le => ⟨_, Φ', β', v2, by rw [← hall]; exact q, le⟩) l.length (Array.replicate l.length false) Φ β a { w with drawn := w.drawn + 1 } ?_ (by simp) (fun y o hy hL => ?_) Φ.le_refl ?_
  · have := v3 i o ho
    rwa [Nat.zero_add] at this
  · have : un (fun j => (Array.replicate l.length false).getD j true) l.length = un (fun j => decide (j < 0)) l.length := un_congr _ fun j hj => by simp [hj]
    rw [this, un_lt _ (Nat.zero_le _)]; omega
  · have : (Array.replicate l.length false).getD y false = true := hL
    rw [Array.getD_eq_getD_getElem?, Array.getElem?_replicate] at this
    split at this <;> simp at this
  · have hf : ∀ j, (Array.replicate l.length false).getD j false = false := fun j => by
      rw [Array.getD_eq_getD_getElem?, Array.getElem?_replicate]
      split <;> rfl
    have hnone : (fun j => (Array.replicate l.length false).getD j false) = fun _ => false := funext hf
    rw [hnone, eO_none]
    have hb : bL (fun _ => false) effs bl = bl := by rw [bL_eq, List.filter_eq_nil_iff.2 fun x _ => by simp]; rfl
    rw [hb]
    exact ⟨hs.kept.drew, hs.fits, hs.old, hs.siz, hs.dfr, hs.env, hs.blk, hs.vir, hs.inj⟩
end
attribute [irreducible] LexS FreshV StoreV NB
end Lf
end
section
set_option linter.unusedVariables false
set_option linter.unusedSimpArgs false
set_option maxHeartbeats 8000000
set_option linter.unusedSectionVars false
namespace Go.Proofs.Ytppdbmobcfedcaa
open Lf Go
attribute [local irreducible] PureOp EffOp Ev RG W Then InBlock Lf.Fin nth App InitE Pick SubE EvL EvD EvP EvR ResL Lf.Lex SubR SubBR RA RAll EvC FinO FinM ResM
section
structure Let where
  name : Str
  body : Exp
instance : Inhabited Let := ⟨⟨[], default⟩⟩
structure Cov where
  name : Str
  must : Exp
  grace : Int
instance : Inhabited Cov := ⟨⟨[], default, 0⟩⟩
structure Cl where
  day : Int
  price : Int
deriving DecidableEq
instance : Inhabited Cl := ⟨⟨0, 0⟩⟩
def encL (x : Let) : List Cell := [.str x.name, .int .i64 x.body.op, .int .i64 x.body.n, .int .i64 x.body.u, .str x.body.s, .sl (x.body.args.map encE)]
def encV (x : Cov) : List Cell := [.str x.name, .int .i64 x.must.op, .int .i64 x.must.n, .int .i64 x.must.u, .str x.must.s, .sl (x.must.args.map encE), .int .i64 x.grace]
def encC (x : Cl) : List Cell := [.int .i64 x.day, .int .i64 x.price]
abbrev aL (x : Let) : PV := .agg (encL x)
abbrev aV (x : Cov) : PV := .agg (encV x)
abbrev aC (x : Cl) : PV := .agg (encC x)
abbrev slL (l : List Let) : PV := .one (.sl (l.map encL))
abbrev slV (l : List Cov) : PV := .one (.sl (l.map encV))
abbrev slC (l : List Cl) : PV := .one (.sl (l.map encC))
theorem upto_succ {q : Nat → Bool} {k : Nat} (h : ∀ j, j < k → q j = true) (hk : q k = true) : ∀ j, j < k + 1 → q j = true := by
  intro j hj
  by_cases e : j = k
  · subst e; exact hk
  · exact h j (by omega)
structure Ind where
  name : Str
  issuer : Str
  face : Int
  start : Int
  due : Int
  every : Int
  count : Int
  adjust : Int
  record : Int
  rank : Int
  lets : List Let
  coupon : Exp
  cap : Int
  covs : List Cov
  favour : List Str
  cross : Int
  calls : List Cl
  notice : Int
  sink : Int
  majority : Int
  fast : Int
instance : Inhabited Ind := ⟨⟨[], [], 0, 0, 0, 0, 0, 0, 0, 0, [], default, 0, [], [], 0, [], 0, 0, 0, 0⟩⟩
def encN (x : Ind) : List Cell := [.str x.name, .str x.issuer, .int .i64 x.face, .int .i64 x.start, .int .i64 x.due, .int .i64 x.every, .int .i64 x.count, .int .i64 x.adjust, .int .i64 x.record, .int .i64 x.rank, .sl (x.lets.map encL), .int .i64 x.coupon.op, .int .i64 x.coupon.n, .int .i64 x.coupon.u, .str x.coupon.s, .sl (x.coupon.args.map encE), .int .i64 x.cap, .sl (x.covs.map encV), .sl (x.favour.map encS), .int .i64 x.cross, .sl (x.calls.map encC), .int .i64 x.notice, .int .i64 x.sink, .int .i64 x.majority, .int .i64 x.fast]
abbrev aN (x : Ind) : PV := .agg (encN x)
structure OkN (x : Ind) : Prop where
  name : x.name.length ≤ 9223372036854775807
  issuer : x.issuer.length ≤ 9223372036854775807
  lets : x.lets.length ≤ 9223372036854775807
  letn : ∀ y ∈ x.lets, y.name.length ≤ 9223372036854775807
  lete : ∀ y ∈ x.lets, OkE y.body
  coupon : OkE x.coupon
  covs : x.covs.length ≤ 9223372036854775807
  covn : ∀ y ∈ x.covs, y.name.length ≤ 9223372036854775807
  cove : ∀ y ∈ x.covs, OkE y.must
  favour : x.favour.length ≤ 9223372036854775807
  favn : ∀ y ∈ x.favour, y.length ≤ 9223372036854775807
  calls : x.calls.length ≤ 9223372036854775807
theorem indexL_ok (l : List Let) (f : Nat) (caps : List Cell) (p : Let → Bool) (hl : l.length ≤ 9223372036854775807) (hp : ∀ x ∈ l, ACalls Try.prog f (aL x :: caps.map PV.one) (.pv (cB (p x)))) : ACalls Try.prog 44 [slL l, .one (.fn f caps)] (.pv (cI (fidx p l))) := by
  refine ACalls.of_W (qs := [cI (fidx p l)]) [4] 19 Try.func44 (by kernel_rfl) rfl rfl rfl fun G => ?_
  refine W.initA (hw := ?_)
  repeat' (first | ((first | apply U_); (first | exact QX.B TYok | exact QX.Len TYok | exact QX.Idx TYok); exact rfl) | refine SC ?_ | (refine W.condA (ht := fun hb => ?_) (hf := fun hb => ?_) <;> (try simp at hb) <;> (try (exfalso; omega))))
  apply W.loopP (σ := Nat) 19 [0, 1, 7] (fun k => k ≤ l.length ∧ (l.take k).any p = false) (fun k => [(8, vI k)]) (fun _ => []) (fun k => l.length - k) (0)
  case hp => repeat (first | exact Pick.nil | apply Pick.cons rfl)
  case h0 =>
    refine ⟨by simp, ?_⟩
    exact Le.auto
  case round =>
    rintro k ⟨h1, h2⟩
    apply W.norm (by repeat (first | exact App.nil | apply App.cons))
    by_cases hk : k < l.length
    · repeat' (first | ((first | apply U_); (first | exact QX.B TYok | exact QX.Len TYok | exact QX.Idx TYok | (apply Q_callvA (hp (nth l k) (nth_mem hk)); exact Ev.auto; exact EvA.auto)); exact rfl) | refine SC ?_ | (refine W.condA (ht := fun hb => ?_) (hf := fun hb => ?_) <;> (try simp at hb) <;> (try (exfalso; omega))))
      · rw [fidx_hit ‹_› h2 hb]
        exact Fin.ret ResL.auto
      · refine ⟨k + 1, ⟨by omega, ?_⟩, ?_, ?_⟩
        · rw [any_take ‹_›, h2, hb]; rfl
        · exact Le.auto
        · (try simp only); omega
    · obtain rfl : k = l.length := by omega
      rw [List.take_length] at h2
      repeat' (first | ((first | apply U_); (first | exact QX.B TYok | exact QX.Len TYok | exact QX.Idx TYok); exact rfl) | refine SC ?_ | (refine W.condA (ht := fun hb => ?_) (hf := fun hb => ?_) <;> (try simp at hb) <;> (try (exfalso; omega))))
      rw [fidx_miss h2]
      exact Fin.ret ResL.auto
theorem containsL_ok (l : List Let) (f : Nat) (caps : List Cell) (p : Let → Bool) (hl : l.length ≤ 9223372036854775807) (hp : ∀ x ∈ l, ACalls Try.prog f (aL x :: caps.map PV.one) (.pv (cB (p x)))) : ACalls Try.prog 25 [slL l, .one (.fn f caps)] (.pv (cB (l.any p))) := by
  refine ACalls.of_W (qs := [cB (l.any p)]) [4] 9 Try.func25 (by kernel_rfl) rfl rfl rfl fun G => ?_
  refine W.initA (hw := ?_)
  repeat' (first | ((first | apply U_); (first | exact QX.B TYok | exact QCl (indexL_ok l f caps p hl hp)); exact rfl) | refine SC ?_ | (refine W.condA (ht := fun hb => ?_) (hf := fun hb => ?_) <;> (try simp at hb) <;> (try (exfalso; omega))))
  rw [← fidx_nn]
  exact Fin.ret ResL.auto
theorem indexV_ok (l : List Cov) (f : Nat) (caps : List Cell) (p : Cov → Bool) (hl : l.length ≤ 9223372036854775807) (hp : ∀ x ∈ l, ACalls Try.prog f (aV x :: caps.map PV.one) (.pv (cB (p x)))) : ACalls Try.prog 58 [slV l, .one (.fn f caps)] (.pv (cI (fidx p l))) := by
  refine ACalls.of_W (qs := [cI (fidx p l)]) [4] 19 Try.func58 (by kernel_rfl) rfl rfl rfl fun G => ?_
  refine W.initA (hw := ?_)
  repeat' (first | ((first | apply U_); (first | exact QX.B TYok | exact QX.Len TYok | exact QX.Idx TYok); exact rfl) | refine SC ?_ | (refine W.condA (ht := fun hb => ?_) (hf := fun hb => ?_) <;> (try simp at hb) <;> (try (exfalso; omega))))
  apply W.loopP (σ := Nat) 19 [0, 1, 7] (fun k => k ≤ l.length ∧ (l.take k).any p = false) (fun k => [(8, vI k)]) (fun _ => []) (fun k => l.length - k) (0)
  case hp => repeat (first | exact Pick.nil | apply Pick.cons rfl)
  case h0 =>
    refine ⟨by simp, ?_⟩
    exact Le.auto
  case round =>
    rintro k ⟨h1, h2⟩
    apply W.norm (by repeat (first | exact App.nil | apply App.cons))
    by_cases hk : k < l.length
    · repeat' (first | ((first | apply U_); (first | exact QX.B TYok | exact QX.Len TYok | exact QX.Idx TYok | (apply Q_callvA (hp (nth l k) (nth_mem hk)); exact Ev.auto; exact EvA.auto)); exact rfl) | refine SC ?_ | (refine W.condA (ht := fun hb => ?_) (hf := fun hb => ?_) <;> (try simp at hb) <;> (try (exfalso; omega))))
      · rw [fidx_hit ‹_› h2 hb]
        exact Fin.ret ResL.auto
      · refine ⟨k + 1, ⟨by omega, ?_⟩, ?_, ?_⟩
        · rw [any_take ‹_›, h2, hb]; rfl
        · exact Le.auto
        · (try simp only); omega
    · obtain rfl : k = l.length := by omega
      rw [List.take_length] at h2
      repeat' (first | ((first | apply U_); (first | exact QX.B TYok | exact QX.Len TYok | exact QX.Idx TYok); exact rfl) | refine SC ?_ | (refine W.condA (ht := fun hb => ?_) (hf := fun hb => ?_) <;> (try simp at hb) <;> (try (exfalso; omega))))
      rw [fidx_miss h2]
      exact Fin.ret ResL.auto
theorem containsV_ok (l : List Cov) (f : Nat) (caps : List Cell) (p : Cov → Bool) (hl : l.length ≤ 9223372036854775807) (hp : ∀ x ∈ l, ACalls Try.prog f (aV x :: caps.map PV.one) (.pv (cB (p x)))) : ACalls Try.prog 38 [slV l, .one (.fn f caps)] (.pv (cB (l.any p))) := by
  refine ACalls.of_W (qs := [cB (l.any p)]) [4] 9 Try.func38 (by kernel_rfl) rfl rfl rfl fun G => ?_
  refine W.initA (hw := ?_)
  repeat' (first | ((first | apply U_); (first | exact QX.B TYok | exact QCl (indexV_ok l f caps p hl hp)); exact rfl) | refine SC ?_ | (refine W.condA (ht := fun hb => ?_) (hf := fun hb => ?_) <;> (try simp at hb) <;> (try (exfalso; omega))))
  rw [← fidx_nn]
  exact Fin.ret ResL.auto
theorem indexC_ok (l : List Cl) (f : Nat) (caps : List Cell) (p : Cl → Bool) (hl : l.length ≤ 9223372036854775807) (hp : ∀ x ∈ l, ACalls Try.prog f (aC x :: caps.map PV.one) (.pv (cB (p x)))) : ACalls Try.prog 59 [slC l, .one (.fn f caps)] (.pv (cI (fidx p l))) := by
  refine ACalls.of_W (qs := [cI (fidx p l)]) [4] 19 Try.func59 (by kernel_rfl) rfl rfl rfl fun G => ?_
  refine W.initA (hw := ?_)
  repeat' (first | ((first | apply U_); (first | exact QX.B TYok | exact QX.Len TYok | exact QX.Idx TYok); exact rfl) | refine SC ?_ | (refine W.condA (ht := fun hb => ?_) (hf := fun hb => ?_) <;> (try simp at hb) <;> (try (exfalso; omega))))
  apply W.loopP (σ := Nat) 19 [0, 1, 7] (fun k => k ≤ l.length ∧ (l.take k).any p = false) (fun k => [(8, vI k)]) (fun _ => []) (fun k => l.length - k) (0)
  case hp => repeat (first | exact Pick.nil | apply Pick.cons rfl)
  case h0 =>
    refine ⟨by simp, ?_⟩
    exact Le.auto
  case round =>
    rintro k ⟨h1, h2⟩
    apply W.norm (by repeat (first | exact App.nil | apply App.cons))
    by_cases hk : k < l.length
    · repeat' (first | ((first | apply U_); (first | exact QX.B TYok | exact QX.Len TYok | exact QX.Idx TYok | (apply Q_callvA (hp (nth l k) (nth_mem hk)); exact Ev.auto; exact EvA.auto)); exact rfl) | refine SC ?_ | (refine W.condA (ht := fun hb => ?_) (hf := fun hb => ?_) <;> (try simp at hb) <;> (try (exfalso; omega))))
      · rw [fidx_hit ‹_› h2 hb]
        exact Fin.ret ResL.auto
      · refine ⟨k + 1, ⟨by omega, ?_⟩, ?_, ?_⟩
        · rw [any_take ‹_›, h2, hb]; rfl
        · exact Le.auto
        · (try simp only); omega
    · obtain rfl : k = l.length := by omega
      rw [List.take_length] at h2
      repeat' (first | ((first | apply U_); (first | exact QX.B TYok | exact QX.Len TYok | exact QX.Idx TYok); exact rfl) | refine SC ?_ | (refine W.condA (ht := fun hb => ?_) (hf := fun hb => ?_) <;> (try simp at hb) <;> (try (exfalso; omega))))
      rw [fidx_miss h2]
      exact Fin.ret ResL.auto
theorem containsC_ok (l : List Cl) (f : Nat) (caps : List Cell) (p : Cl → Bool) (hl : l.length ≤ 9223372036854775807) (hp : ∀ x ∈ l, ACalls Try.prog f (aC x :: caps.map PV.one) (.pv (cB (p x)))) : ACalls Try.prog 40 [slC l, .one (.fn f caps)] (.pv (cB (l.any p))) := by
  refine ACalls.of_W (qs := [cB (l.any p)]) [4] 9 Try.func40 (by kernel_rfl) rfl rfl rfl fun G => ?_
  refine W.initA (hw := ?_)
  repeat' (first | ((first | apply U_); (first | exact QX.B TYok | exact QCl (indexC_ok l f caps p hl hp)); exact rfl) | refine SC ?_ | (refine W.condA (ht := fun hb => ?_) (hf := fun hb => ?_) <;> (try simp at hb) <;> (try (exfalso; omega))))
  rw [← fidx_nn]
  exact Fin.ret ResL.auto
def okU (l : List Str) (k : Nat) : Bool := nameF (nth l k) && !decide (nth l k ∈ l.take k)
def uniqF (l : List Str) (most : Int) : Bool := (List.range l.length).all (okU l) && decide ((l.length : Int) ≤ most)
theorem uniq_no {l : List Str} {most : Int} {k : Nat} (hk : k < l.length) (h : okU l k = false) : uniqF l most = false := by
  have : (List.range l.length).all (okU l) = false := by
    cases hc : (List.range l.length).all (okU l) with
    | false => rfl
    | true => have := List.all_eq_true.1 hc k (List.mem_range.2 hk); rw [h] at this; cases this
  rw [uniqF, this, Bool.false_and]
theorem uniq_all {l : List Str} {most : Int} (h : ∀ j, j < l.length → okU l j = true) : uniqF l most = decide ((l.length : Int) ≤ most) := by
  rw [uniqF, List.all_eq_true.2 fun j hj => h j (List.mem_range.1 hj), Bool.true_and]
theorem unique_ok (l : List Str) (most : Int) (hl : l.length ≤ 9223372036854775807) (hs : ∀ s ∈ l, s.length ≤ 9223372036854775807) : ACalls Try.prog 36 [slS l, cI most] (.pv (cB (uniqF l most))) := by
  refine ACalls.of_W (qs := [cB (uniqF l most)]) [4] 29 Try.func36 (by kernel_rfl) rfl rfl rfl fun G => ?_
  refine W.initA (hw := ?_)
  repeat' (first | ((first | apply U_ | (apply Ug_; exact rfl; exact rfl) | (apply Ugq_; exact rfl; exact rfl)); (first | exact QX.B TYok | exact QX.Len TYok | exact QX.Idx TYok | exact QX.Cut TYok); exact rfl) | refine SC ?_ | (apply RG.gT; exact rfl; exact rfl; (first | assumption | decide)) | (apply RG.gF; exact rfl; exact rfl; (first | assumption | decide | (rw [ne_eq, Bool.not_eq_true]; assumption) | (rw [ne_eq, Bool.not_eq_false]; assumption)); exact rfl) | (refine W.condA (ht := fun hb => ?_) (hf := fun hb => ?_) <;> (try simp at hb) <;> (try (exfalso; omega))))
  apply W.loopP (σ := Nat) 29 [0, 1, 7, 8] (fun k => k ≤ l.length ∧ (∀ j, j < k → okU l j = true)) (fun k => [(9, vI k)]) (fun _ => []) (fun k => l.length - k) (0)
  case hp => repeat (first | exact Pick.nil | apply Pick.cons rfl)
  case h0 =>
    refine ⟨⟨by simp, fun j hj => absurd hj (by omega)⟩, ?_⟩
    exact Le.auto
  case round =>
    rintro k ⟨h1, h2⟩
    apply W.norm (by repeat (first | exact App.nil | apply App.cons))
    by_cases hk : k < l.length
    · have q1 := name_ok (nth l k) (hs _ (nth_mem hk))
      have q2 := contains_ok (l.take ((k : Nat) : Int).toNat) (nth l k) (by simp; omega)
      cases hc : okU l k with
      | true =>
        have hd := hc
        unfold okU at hd
        simp only [Bool.and_eq_true, Bool.not_eq_true', decide_eq_false_iff_not] at hd
        rw [hd.1] at q1
        rw [decide_eq_false (by simpa using hd.2)] at q2
        repeat' (first | ((first | apply U_ | (apply Ug_; exact rfl; exact rfl) | (apply Ugq_; exact rfl; exact rfl)); (first | exact QX.B TYok | exact QX.Len TYok | exact QX.Idx TYok | exact QX.Cut TYok | exact QCl (q1) | exact QCl (q2)); exact rfl) | refine SC ?_ | (apply RG.gT; exact rfl; exact rfl; (first | assumption | decide)) | (apply RG.gF; exact rfl; exact rfl; (first | assumption | decide | (rw [ne_eq, Bool.not_eq_true]; assumption) | (rw [ne_eq, Bool.not_eq_false]; assumption)); exact rfl) | (refine W.condA (ht := fun hb => ?_) (hf := fun hb => ?_) <;> (try simp at hb) <;> (try (exfalso; omega))))
        refine ⟨k + 1, ⟨by omega, upto_succ (q := okU l) h2 hc⟩, ?_, ?_⟩
        · exact Le.auto
        · (try simp only); omega
      | false =>
        have hd := hc
        unfold okU at hd
        rw [uniq_no hk hc]
        repeat' (first | ((first | apply U_ | (apply Ug_; exact rfl; exact rfl) | (apply Ugq_; exact rfl; exact rfl)); (first | exact QX.B TYok | exact QX.Len TYok | exact QX.Idx TYok | exact QX.Cut TYok | exact QCl (q1) | exact QCl (q2)); exact rfl) | refine SC ?_ | (apply RG.gT; exact rfl; exact rfl; (first | assumption | decide)) | (apply RG.gF; exact rfl; exact rfl; (first | assumption | decide | (rw [ne_eq, Bool.not_eq_true]; assumption) | (rw [ne_eq, Bool.not_eq_false]; assumption)); exact rfl) | (refine W.condA (ht := fun hb => ?_) (hf := fun hb => ?_) <;> (try simp at hb) <;> (try (exfalso; omega))))
        · exact Fin.ret ResL.auto
        all_goals (exfalso; simp_all; done)
    · obtain rfl : k = l.length := by omega
      rw [uniq_all h2]
      repeat' (first | ((first | apply U_ | (apply Ug_; exact rfl; exact rfl) | (apply Ugq_; exact rfl; exact rfl)); (first | exact QX.B TYok | exact QX.Len TYok | exact QX.Idx TYok | exact QX.Cut TYok); exact rfl) | refine SC ?_ | (apply RG.gT; exact rfl; exact rfl; (first | assumption | decide)) | (apply RG.gF; exact rfl; exact rfl; (first | assumption | decide | (rw [ne_eq, Bool.not_eq_true]; assumption) | (rw [ne_eq, Bool.not_eq_false]; assumption)); exact rfl) | (refine W.condA (ht := fun hb => ?_) (hf := fun hb => ?_) <;> (try simp at hb) <;> (try (exfalso; omega))))
      exact Fin.ret ResL.auto
theorem any_no {α : Type} [Inhabited α] {l : List α} {p : α → Bool} (h : ∀ j, j < l.length → p (nth l j) = false) : l.any p = false := by
  refine List.any_eq_false.2 fun y hy => ?_
  obtain ⟨j, hj, rfl⟩ := List.getElem_of_mem hy
  have := h j hj
  rw [nth_eq hj] at this
  rw [this]; decide
end
end Go.Proofs.Ytppdbmobcfedcaa
end
section
set_option linter.unusedVariables false
set_option linter.unusedSimpArgs false
set_option maxHeartbeats 8000000
set_option linter.unusedSectionVars false
namespace Go.Proofs.Ytppdbmobcfedcaa
open Lf Go
attribute [local irreducible] PureOp EffOp Ev RG W Then InBlock Lf.Fin nth App InitE Pick SubE EvL EvD EvP EvR ResL Lf.Lex SubR SubBR RA RAll EvC FinO FinM ResM
section
variable {L lets : List Let} {us : List Int}
def nameEq (s : Str) (y : Let) : Bool := decide (y.name = s)
theorem opsF_two {op : Int} (h : opsF op = 2) : (4 ≤ op ∧ op ≤ 11) ∨ op = 13 ∨ op = 14 := by
  unfold opsF at h
  repeat' split at h
  all_goals omega
theorem opsF_cases {op : Int} {k : Nat} (h : (k : Int) = opsF op) : ((op = 0 ∨ op = 1 ∨ op = 2 ∨ op = 3) ∧ k = 0) ∨ ((op = 12 ∨ op = 16 ∨ op = 17 ∨ op = 18) ∧ k = 1) ∨ (op = 15 ∧ k = 3) ∨ (((4 ≤ op ∧ op ≤ 11) ∨ op = 13 ∨ op = 14) ∧ k = 2) := by
  by_cases h2 : opsF op = 2
  · have := opsF_two h2; omega
  unfold opsF at h h2
  repeat' split at h
  all_goals (first | omega | (exfalso; split at h2 <;> (try split at h2) <;> (try split at h2) <;> (try split at h2) <;> omega))
def pairF (op a b : Int) : Int :=
  if op = 4 ∨ op = 5 ∨ op = 8 ∨ op = 9 then (if a = b ∧ a ≠ 4 then a else -1)
  else if op = 6 then (if a = 0 ∧ b ≠ 4 then b else if b = 0 ∧ a ≠ 4 then a else if (a = 2 ∧ b = 1) ∨ (a = 1 ∧ b = 2) then 1 else -1)
  else if op = 7 then (if b = 0 ∧ a ≠ 4 then a else if a = b ∧ a ≠ 4 then 0 else -1)
  else if op = 10 then (if a = b ∧ a ≠ 4 then 4 else -1)
  else if op = 11 then (if a = b then 4 else -1)
  else -1
def logicF (op : Int) : Bool := ([12, 13, 14, 16, 17, 18] : List Int).any fun y => decide (op = y)
def joinF (op : Int) (l : List Int) : Int :=
  if logicF op = true then (if (l.any fun u => !decide (u = 4)) = true then -1 else 4)
  else if op = 15 then (if nth l 0 = 4 ∧ nth l 1 = nth l 2 then nth l 1 else -1)
  else if l.length = 2 then pairF op (nth l 0) (nth l 1) else -1
abbrev scV (L : List Let) (us : List Int) : PV := .agg [.sl (L.map encL), .sl (us.map encJ)]
def nameU (L : List Let) (us : List Int) (s : Str) : Int := if L.any (nameEq s) then nth us (L.findIdx (nameEq s)) else -1
inductive UR where
  | ok (u : Int)
  | bad (p : List Int) (e : Int)
inductive UA where
  | ok (l : List Int)
  | bad (p : List Int) (e : Int)
def nodeU (L : List Let) (us : List Int) (op u : Int) (s : Str) (path : List Int) (a : UA) : UR :=
  if op = 0 then .ok u else if op = 2 then .ok 1 else if op = 3 then .ok 2
  else if op = 1 then (if nameU L us s = -1 then .bad path 14 else .ok (nameU L us s))
  else match a with
  | .bad p e => .bad p e
  | .ok vs => if joinF op vs = -1 then .bad path 13 else .ok (joinF op vs)
mutual
def ofU (L : List Let) (us : List Int) : Exp → List Int → UR
  | .mk op _ u s l, path => nodeU L us op u s path (argsU L us l path 0)
def argsU (L : List Let) (us : List Int) : List Exp → List Int → Nat → UA
  | [], _, _ => .ok []
  | e :: r, path, i => match ofU L us e (path ++ [(i : Int)]) with
    | .bad p x => .bad p x
    | .ok u => match argsU L us r path (i + 1) with
      | .bad p x => .bad p x
      | .ok vs => .ok (u :: vs)
end
theorem nth_cons0 {α : Type} [Inhabited α] (x : α) (l : List α) : nth (x :: l) 0 = x := by rw [nth]; rfl
theorem nth_consS {α : Type} [Inhabited α] (x : α) (l : List α) (k : Nat) : nth (x :: l) (k + 1) = nth l k := by rw [nth, nth]; rfl
theorem args_ok : ∀ (l : List Exp) (path : List Int) (i : Nat) (vs : List Int), argsU L us l path i = .ok vs → vs.length = l.length ∧ ∀ j, j < l.length → ofU L us (nth l j) (path ++ [((i + j : Nat) : Int)]) = .ok (nth vs j)
  | [], _, _, vs, h => by rw [argsU] at h; injection h with h; subst h; exact ⟨rfl, fun j hj => absurd hj (by simp)⟩
  | e :: r, path, i, vs, h => by
    rw [argsU] at h
    cases h1 : ofU L us e (path ++ [(i : Int)]) with
    | bad p x => rw [h1] at h; cases h
    | ok u =>
      rw [h1] at h
      dsimp only at h
      cases h2 : argsU L us r path (i + 1) with
      | bad p x => rw [h2] at h; cases h
      | ok ws =>
        rw [h2] at h
        injection h with h
        subst h
        obtain ⟨g1, g2⟩ := args_ok r path (i + 1) ws h2
        refine ⟨by simp [g1], fun j hj => ?_⟩
        cases j with
        | zero => rw [nth_cons0, nth_cons0]; exact h1
        | succ j =>
          rw [nth_consS, nth_consS, show i + (j + 1) = i + 1 + j by omega]
          exact g2 j (by simpa using hj)
theorem args_bad : ∀ (l : List Exp) (path : List Int) (i : Nat) (p : List Int) (x : Int), argsU L us l path i = .bad p x → ∃ k, k < l.length ∧ (∃ vs : List Int, ∀ j, j < k → ofU L us (nth l j) (path ++ [((i + j : Nat) : Int)]) = .ok (nth vs j)) ∧ ofU L us (nth l k) (path ++ [((i + k : Nat) : Int)]) = .bad p x
  | [], _, _, p, x, h => by rw [argsU] at h; cases h
  | e :: r, path, i, p, x, h => by
    rw [argsU] at h
    cases h1 : ofU L us e (path ++ [(i : Int)]) with
    | bad p' x' =>
      rw [h1] at h
      injection h with a b
      subst a b
      exact ⟨0, by simp, ⟨[], fun j hj => absurd hj (by omega)⟩, by rw [nth_cons0]; exact h1⟩
    | ok u =>
      rw [h1] at h
      dsimp only at h
      cases h2 : argsU L us r path (i + 1) with
      | bad p' x' =>
        rw [h2] at h
        injection h with a b
        subst a b
        obtain ⟨k, g1, ⟨vs, g2⟩, g3⟩ := args_bad r path (i + 1) p' x' h2
        refine ⟨k + 1, by simp; omega, ⟨u :: vs, fun j hj => ?_⟩, ?_⟩
        · cases j with
          | zero => rw [nth_cons0, nth_cons0]; exact h1
          | succ j => rw [nth_consS, nth_consS, show i + (j + 1) = i + 1 + j by omega]; exact g2 j (by omega)
        · rw [nth_consS, show i + (k + 1) = i + 1 + k by omega]; exact g3
      | ok ws => rw [h2] at h; cases h
abbrev pI (p : List Int) : PV := .one (.sl (p.map encJ))
abbrev whyC (p : List Int) (e : Int) : Cell := .iface 57 [.sl (p.map encJ), .int .i64 e]
theorem right_lenU {d : Nat} {op n u : Int} {s : Str} {l : List Exp} (h : rightF (d + 1) (.mk op n u s l) = true) : l.length ≤ 3 ∧ (op = 15 → l.length = 3) := by
  rw [rightF] at h
  simp only [Bool.and_eq_true, decide_eq_true_iff] at h
  have := opsF_cases h.1
  omega
theorem right_kidsU {d : Nat} {op n u : Int} {s : Str} {l : List Exp} (h : rightF (d + 1) (.mk op n u s l) = true) : ∀ x ∈ l, rightF d x = true := by
  rw [rightF] at h
  simp only [Bool.and_eq_true, decide_eq_true_iff] at h
  obtain ⟨h1, h2⟩ := h
  rcases opsF_cases h1 with ⟨q, hk⟩ | ⟨q, hk⟩ | ⟨q, hk⟩ | ⟨q, hk⟩
  · have hl : l = [] := List.length_eq_zero_iff.1 hk
    subst hl
    intro x hx; cases hx
  all_goals (
    rw [if_neg (by omega), if_neg (by omega)] at h2
    split at h2
    · simp only [Bool.and_eq_true, List.all_eq_true] at h2; exact h2.2
    · simp only [Bool.and_eq_true, List.all_eq_true] at h2; exact h2.2)
/-- unit, place, error -/
structure UT where
  u : Int
  p : Cell
  e : Int
def UR.t : UR → UT
  | .ok u => ⟨u, .slnil, 0⟩
  | .bad p x => ⟨0, .sl (p.map encJ), x⟩
/-- the units of the first definitions -/
def tabU (lets : List Let) : Nat → List Int
  | 0 => []
  | k + 1 => tabU lets k ++ [if (ofU (lets.take k) (tabU lets k) (nth lets k).body []).t.e = 0 then (ofU (lets.take k) (tabU lets k) (nth lets k).body []).t.u else -1]
theorem tabU_len (lets : List Let) : ∀ n, (tabU lets n).length = n
  | 0 => rfl
  | k + 1 => by rw [tabU, List.length_append, tabU_len lets k]; rfl
theorem tabU_take (lets : List Let) {k : Nat} : ∀ {n : Nat}, k ≤ n → (tabU lets n).take k = tabU lets k
  | 0, h => by obtain rfl : k = 0 := by omega
               rfl
  | n + 1, h => by
    by_cases e : k = n + 1
    · subst e; exact List.take_of_length_le (by rw [tabU_len]; omega)
    · rw [tabU, List.take_append_of_le_length (by rw [tabU_len]; omega)]; exact tabU_take lets (by omega)
theorem tabU_nth (lets : List Let) {i : Nat} : ∀ {n : Nat}, i < n → nth (tabU lets n) i = if (ofU (lets.take i) (tabU lets i) (nth lets i).body []).t.e = 0 then (ofU (lets.take i) (tabU lets i) (nth lets i).body []).t.u else -1
  | 0, h => by omega
  | n + 1, h => by
    by_cases e : i = n
    · subst e
      rw [tabU, nth, List.getD_eq_getElem?_getD, List.getElem?_append_right (by rw [tabU_len]; omega), tabU_len, Nat.sub_self]; rfl
    · have ih := tabU_nth lets (n := n) (i := i) (by omega)
      rw [← ih, tabU]
      simp only [nth, List.getD_eq_getElem?_getD]
      rw [List.getElem?_append_left (by rw [tabU_len]; omega)]
end
end Go.Proofs.Ytppdbmobcfedcaa
end
section
set_option linter.unusedVariables false
set_option linter.unusedSimpArgs false
set_option maxHeartbeats 8000000
set_option linter.unusedSectionVars false
namespace Go.Proofs.Ytppdbmobcfedcaa
open Lf Go
attribute [local irreducible] PureOp EffOp Ev RG W Then InBlock Lf.Fin nth App InitE Pick SubE EvL EvD EvP EvR ResL Lf.Lex SubR SubBR RA RAll EvC FinO FinM ResM
section
variable {L lets : List Let} {us : List Int}
structure LIn (lets : List Let) : Prop where
  len : lets.length ≤ 9223372036854775807
  ok : ∀ y ∈ lets, OkE y.body
/-- unit, place, error -/
structure OT where
  u : Int
  p : List Int
  e : Int
def UR.o : UR → OT
  | .ok u => ⟨u, [], 0⟩
  | .bad p x => ⟨0, p, x⟩
def ofC (lets : List Let) (e : Exp) : Bool := (rightF 12 e && decide (lets.length ≤ 20)) && !(lets.any fun y => !rightF 12 y.body)
def ofT (lets : List Let) (e : Exp) : OT := if ofC lets e = true then (ofU lets (tabU lets lets.length) e []).o else ⟨0, [], 1⟩
def otP (T : OT) : AV := .tup [cI T.u, .one (.sl (T.p.map encJ)), cI T.e]
theorem ofC_yes {e : Exp} (hc : ofC lets e = true) : lets.length ≤ 20 ∧ rightF 12 e = true ∧ ∀ y ∈ lets, rightF 12 y.body = true := by
  unfold ofC at hc
  simp only [Bool.and_eq_true, decide_eq_true_iff, Bool.not_eq_true'] at hc
  obtain ⟨⟨q1, q2⟩, q3⟩ := hc
  refine ⟨q2, q1, fun y hy => ?_⟩
  cases hs : rightF 12 y.body with
  | true => rfl
  | false => rw [List.any_eq_true.2 ⟨y, hy, by rw [hs]; rfl⟩] at q3; cases q3
theorem ofC_of {e : Exp} (h1 : lets.length ≤ 20) (h2 : rightF 12 e = true) (h3 : ∀ y ∈ lets, rightF 12 y.body = true) : ofC lets e = true := by
  unfold ofC
  rw [h2, decide_eq_true h1, Bool.true_and, Bool.true_and, Bool.not_eq_true']
  refine List.any_eq_false.2 fun y hy => ?_
  rw [h3 y hy]; decide
end
end Go.Proofs.Ytppdbmobcfedcaa
end
section
set_option linter.unusedVariables false
set_option linter.unusedSimpArgs false
set_option maxHeartbeats 8000000
set_option linter.unusedSectionVars false
namespace Go.Proofs.Ytppdbmobcfedcaa
open Lf Go
attribute [local irreducible] PureOp EffOp Ev RG W Then InBlock Lf.Fin nth App InitE Pick SubE EvL EvD EvP EvR ResL Lf.Lex SubR SubBR RA RAll EvC FinO FinM ResM
theorem right0_a
    {d : Nat} {n u : Int} {s : Str} {l : List Exp} (hs : s.length ≤ 9223372036854775807) (hl : l.length ≤ 9223372036854775807) (hlen : (l.length : Int) = opsF 0)
    (hdc : (((d + 1 : Nat) : Int)) ≠ 0) (hdb : (d : Int) ≤ 100) (ih : ∀ x ∈ l, ACalls Try.prog 43 [aE x, cI (((d + 1 : Nat) : Int) - 1)] (.pv (cB (rightF d x)))) (cl : ∀ x ∈ l, ACalls Try.prog 61 [aE x, .one (.ptr [.int .i64 ((d + 1 : Nat) : Int)])] (.pv (cB (!rightF d x))))
    (hA : decide (s = E0) = false) : ACalls Try.prog 43 [.agg [.int .i64 0, .int .i64 n, .int .i64 u, .str s, .sl (l.map encX)], cI ((d + 1 : Nat) : Int)] (.pv (cB false)) := by
  refine ACalls.of_W (qs := [cB false]) [4] 104 Try.func43 (by kernel_rfl) rfl rfl rfl fun G => ?_
  refine W.initA (hw := ?_)
  repeat' (first | ((first | apply U_ | (apply Ug_; exact rfl; exact rfl) | (apply Ugq_; exact rfl; exact rfl) | apply Lex.u | (apply Lex.g; exact rfl; exact rfl) | (apply Lex.gq; exact rfl; exact rfl)); (first | (apply Q_litD TYok; (repeat (first | exact EvR.nil | apply EvR.cons Ev.auto)); exact rfl; exact rfl; exact rfl; exact rfl; exact rfl; exact rfl) | exact QX.B TYok | exact QX.Len TYok | exact QX.Idx TYok | exact QX.Fun TYok | exact QCl (operands_ok 0)); exact rfl) | refine SX.Lit TYok (h := ?_) | refine SX.Box TYok (h := ?_) | refine SC ?_ | (apply S_isnil TYok; exact rfl; exact rfl; exact rfl; exact Ev.auto; intro bn hnil) | (apply RG.gT; exact rfl; exact rfl; (first | assumption | decide)) | (apply RG.gF; exact rfl; exact rfl; (first | assumption | decide | (rw [ne_eq, Bool.not_eq_true]; assumption) | (rw [ne_eq, Bool.not_eq_false]; assumption)); exact rfl) | (apply W.draw2 (id := 1) [0, 1, 3, 7, 15, 31, 7, 71, 199, 511, 1023] [[3], [6], [7], [2, 8], [9, 8], [10, 8], [2, 8], [12, 8], [13, 8], [11, 14, 8], [8, 15]] 11 [(6, 8), (7, 64), (8, 128), (9, 260), (10, 768), (11, 1280), (12, 260), (13, 4352), (14, 8448), (15, 18688), (16, 33024)] mixed (by kernel_rfl) rfl rfl) | (apply W.draw2 (id := 16) [0, 1, 3, 7, 15, 31, 63, 127, 255, 511, 1023, 2047, 4095, 8191, 16383, 32767, 65535, 131071, 262143, 32767, 557055, 2097151, 4194303, 8388607] [[2], [61], [62], [63], [2, 64], [65, 64], [66, 64], [64, 67], [68], [2, 69], [70, 69], [71, 69], [72, 69], [69, 73], [74], [2, 75], [76, 75], [77, 75], [78, 75], [3, 75], [80, 75], [79, 81, 75], [75, 82], [83]] 24 [(61, 4), (62, 2305843009213693952), (63, 4611686018427387904), (64, 9223372036854775808), (65, 18446744073709551620), (66, 55340232221128654848), (67, 92233720368547758080), (68, 166020696663385964544), (69, 295147905179352825856), (70, 590295810358705651716), (71, 1770887431076116955136), (72, 2951479051793528258560), (73, 5312662293228350865408), (74, 10035028776097996079104), (75, 18889465931478580854784), (76, 37778931862957161709572), (77, 113336795588871485128704), (78, 188894659314785808547840), (79, 340010386766614455386112), (80, 37778931862957161709576), (81, 1246704751477586336415744), (82, 3060093480899530098475008), (83, 4873482210321473860534272), (4, 9671406556917033397649408)] mixed (by kernel_rfl) rfl rfl) | (refine W.condA (ht := fun hb => ?_) (hf := fun hb => ?_) <;> (try simp at hb) <;> (try (exfalso; omega))))
  all_goals exact Fin.ret ResL.auto
theorem right0_b
    {d : Nat} {n u : Int} {s : Str} {l : List Exp} (hs : s.length ≤ 9223372036854775807) (hl : l.length ≤ 9223372036854775807) (hlen : (l.length : Int) = opsF 0)
    (hdc : (((d + 1 : Nat) : Int)) ≠ 0) (hdb : (d : Int) ≤ 100) (ih : ∀ x ∈ l, ACalls Try.prog 43 [aE x, cI (((d + 1 : Nat) : Int) - 1)] (.pv (cB (rightF d x)))) (cl : ∀ x ∈ l, ACalls Try.prog 61 [aE x, .one (.ptr [.int .i64 ((d + 1 : Nat) : Int)])] (.pv (cB (!rightF d x))))
    (hA : decide (s = E0) = true) (hB : [u].all (inF 0 4) = false) : ACalls Try.prog 43 [.agg [.int .i64 0, .int .i64 n, .int .i64 u, .str s, .sl (l.map encX)], cI ((d + 1 : Nat) : Int)] (.pv (cB false)) := by
  have hC : (decide (s = E0) && [u].all (inF 0 4)) = false := by rw [hA, hB]; rfl
  refine ACalls.of_W (qs := [cB false]) [4] 104 Try.func43 (by kernel_rfl) rfl rfl rfl fun G => ?_
  refine W.initA (hw := ?_)
  repeat' (first | ((first | apply U_ | (apply Ug_; exact rfl; exact rfl) | (apply Ugq_; exact rfl; exact rfl) | apply Lex.u | (apply Lex.g; exact rfl; exact rfl) | (apply Lex.gq; exact rfl; exact rfl)); (first | (apply Q_litD TYok; (repeat (first | exact EvR.nil | apply EvR.cons Ev.auto)); exact rfl; exact rfl; exact rfl; exact rfl; exact rfl; exact rfl) | exact QX.B TYok | exact QX.Len TYok | exact QX.Idx TYok | exact QX.Fun TYok | exact QCl (operands_ok 0) | exact QCl (in_ok 0 4 [u] (by simp))); exact rfl) | refine SX.Lit TYok (h := ?_) | refine SX.Box TYok (h := ?_) | refine SC ?_ | (apply S_isnil TYok; exact rfl; exact rfl; exact rfl; exact Ev.auto; intro bn hnil) | (apply RG.gT; exact rfl; exact rfl; (first | assumption | decide)) | (apply RG.gF; exact rfl; exact rfl; (first | assumption | decide | (rw [ne_eq, Bool.not_eq_true]; assumption) | (rw [ne_eq, Bool.not_eq_false]; assumption)); exact rfl) | (apply W.draw2 (id := 1) [0, 1, 3, 7, 15, 31, 7, 71, 199, 511, 1023] [[3], [6], [7], [2, 8], [9, 8], [10, 8], [2, 8], [12, 8], [13, 8], [11, 14, 8], [8, 15]] 11 [(6, 8), (7, 64), (8, 128), (9, 260), (10, 768), (11, 1280), (12, 260), (13, 4352), (14, 8448), (15, 18688), (16, 33024)] mixed (by kernel_rfl) rfl rfl) | (apply W.draw2 (id := 16) [0, 1, 3, 7, 15, 31, 63, 127, 255, 511, 1023, 2047, 4095, 8191, 16383, 32767, 65535, 131071, 262143, 32767, 557055, 2097151, 4194303, 8388607] [[2], [61], [62], [63], [2, 64], [65, 64], [66, 64], [64, 67], [68], [2, 69], [70, 69], [71, 69], [72, 69], [69, 73], [74], [2, 75], [76, 75], [77, 75], [78, 75], [3, 75], [80, 75], [79, 81, 75], [75, 82], [83]] 24 [(61, 4), (62, 2305843009213693952), (63, 4611686018427387904), (64, 9223372036854775808), (65, 18446744073709551620), (66, 55340232221128654848), (67, 92233720368547758080), (68, 166020696663385964544), (69, 295147905179352825856), (70, 590295810358705651716), (71, 1770887431076116955136), (72, 2951479051793528258560), (73, 5312662293228350865408), (74, 10035028776097996079104), (75, 18889465931478580854784), (76, 37778931862957161709572), (77, 113336795588871485128704), (78, 188894659314785808547840), (79, 340010386766614455386112), (80, 37778931862957161709576), (81, 1246704751477586336415744), (82, 3060093480899530098475008), (83, 4873482210321473860534272), (4, 9671406556917033397649408)] mixed (by kernel_rfl) rfl rfl) | (refine W.condA (ht := fun hb => ?_) (hf := fun hb => ?_) <;> (try simp at hb) <;> (try (exfalso; omega))))
  all_goals exact Fin.ret ResL.auto
theorem right0_c
    {d : Nat} {n u : Int} {s : Str} {l : List Exp} (hs : s.length ≤ 9223372036854775807) (hl : l.length ≤ 9223372036854775807) (hlen : (l.length : Int) = opsF 0)
    (hdc : (((d + 1 : Nat) : Int)) ≠ 0) (hdb : (d : Int) ≤ 100) (ih : ∀ x ∈ l, ACalls Try.prog 43 [aE x, cI (((d + 1 : Nat) : Int) - 1)] (.pv (cB (rightF d x)))) (cl : ∀ x ∈ l, ACalls Try.prog 61 [aE x, .one (.ptr [.int .i64 ((d + 1 : Nat) : Int)])] (.pv (cB (!rightF d x))))
    (hA : decide (s = E0) = true) (hB : [u].all (inF 0 4) = true) : ACalls Try.prog 43 [.agg [.int .i64 0, .int .i64 n, .int .i64 u, .str s, .sl (l.map encX)], cI ((d + 1 : Nat) : Int)] (.pv (cB (decide (s = E0) && [u].all (inF 0 4) && [n].all (inF 0 (if u = 4 then 1 else 1000000000000000))))) := by
  have hC : (decide (s = E0) && [u].all (inF 0 4)) = true := by rw [hA, hB]; rfl
  refine ACalls.of_W (qs := [cB (decide (s = E0) && [u].all (inF 0 4) && [n].all (inF 0 (if u = 4 then 1 else 1000000000000000)))]) [4] 104 Try.func43 (by kernel_rfl) rfl rfl rfl fun G => ?_
  refine W.initA (hw := ?_)
  repeat' (first | ((first | apply U_ | (apply Ug_; exact rfl; exact rfl) | (apply Ugq_; exact rfl; exact rfl) | apply Lex.u | (apply Lex.g; exact rfl; exact rfl) | (apply Lex.gq; exact rfl; exact rfl)); (first | (apply Q_litD TYok; (repeat (first | exact EvR.nil | apply EvR.cons Ev.auto)); exact rfl; exact rfl; exact rfl; exact rfl; exact rfl; exact rfl) | exact QX.B TYok | exact QX.Len TYok | exact QX.Idx TYok | exact QX.Fun TYok | exact QCl (operands_ok 0) | exact QCl (in_ok 0 4 [u] (by simp)) | exact QCl (in_ok 0 1000000000000000 [n] (by simp)) | exact QCl (in_ok 0 1 [n] (by simp))); exact rfl) | refine SX.Lit TYok (h := ?_) | refine SX.Box TYok (h := ?_) | refine SC ?_ | (apply S_isnil TYok; exact rfl; exact rfl; exact rfl; exact Ev.auto; intro bn hnil) | (apply RG.gT; exact rfl; exact rfl; (first | assumption | decide)) | (apply RG.gF; exact rfl; exact rfl; (first | assumption | decide | (rw [ne_eq, Bool.not_eq_true]; assumption) | (rw [ne_eq, Bool.not_eq_false]; assumption)); exact rfl) | (apply W.draw2 (id := 1) [0, 1, 3, 7, 15, 31, 7, 71, 199, 511, 1023] [[3], [6], [7], [2, 8], [9, 8], [10, 8], [2, 8], [12, 8], [13, 8], [11, 14, 8], [8, 15]] 11 [(6, 8), (7, 64), (8, 128), (9, 260), (10, 768), (11, 1280), (12, 260), (13, 4352), (14, 8448), (15, 18688), (16, 33024)] mixed (by kernel_rfl) rfl rfl) | (apply W.draw2 (id := 16) [0, 1, 3, 7, 15, 31, 63, 127, 255, 511, 1023, 2047, 4095, 8191, 16383, 32767, 65535, 131071, 262143, 32767, 557055, 2097151, 4194303, 8388607] [[2], [61], [62], [63], [2, 64], [65, 64], [66, 64], [64, 67], [68], [2, 69], [70, 69], [71, 69], [72, 69], [69, 73], [74], [2, 75], [76, 75], [77, 75], [78, 75], [3, 75], [80, 75], [79, 81, 75], [75, 82], [83]] 24 [(61, 4), (62, 2305843009213693952), (63, 4611686018427387904), (64, 9223372036854775808), (65, 18446744073709551620), (66, 55340232221128654848), (67, 92233720368547758080), (68, 166020696663385964544), (69, 295147905179352825856), (70, 590295810358705651716), (71, 1770887431076116955136), (72, 2951479051793528258560), (73, 5312662293228350865408), (74, 10035028776097996079104), (75, 18889465931478580854784), (76, 37778931862957161709572), (77, 113336795588871485128704), (78, 188894659314785808547840), (79, 340010386766614455386112), (80, 37778931862957161709576), (81, 1246704751477586336415744), (82, 3060093480899530098475008), (83, 4873482210321473860534272), (4, 9671406556917033397649408)] mixed (by kernel_rfl) rfl rfl) | (refine W.condA (ht := fun hb => ?_) (hf := fun hb => ?_) <;> (try simp at hb) <;> (try (exfalso; omega))))
  · rw [if_pos hb]
    exact Fin.ret ResL.auto
  · rw [if_neg hb]
    exact Fin.ret ResL.auto
end Go.Proofs.Ytppdbmobcfedcaa
end
section
set_option linter.unusedVariables false
set_option linter.unusedSimpArgs false
set_option maxHeartbeats 8000000
set_option linter.unusedSectionVars false
namespace Go.Proofs.Ytppdbmobcfedcaa
open Lf Go
attribute [local irreducible] PureOp EffOp Ev RG W Then InBlock Lf.Fin nth App InitE Pick SubE EvL EvD EvP EvR ResL Lf.Lex SubR SubBR RA RAll EvC FinO FinM ResM
theorem right1_ok {op : Int} (h1 : op = 1 ∨ op = 2 ∨ op = 3)
    {d : Nat} {n u : Int} {s : Str} {l : List Exp} (hs : s.length ≤ 9223372036854775807) (hl : l.length ≤ 9223372036854775807) (hlen : (l.length : Int) = opsF op)
    (hdc : (((d + 1 : Nat) : Int)) ≠ 0) (hdb : (d : Int) ≤ 100) (ih : ∀ x ∈ l, ACalls Try.prog 43 [aE x, cI (((d + 1 : Nat) : Int) - 1)] (.pv (cB (rightF d x)))) (cl : ∀ x ∈ l, ACalls Try.prog 61 [aE x, .one (.ptr [.int .i64 ((d + 1 : Nat) : Int)])] (.pv (cB (!rightF d x))))
     : ACalls Try.prog 43 [.agg [.int .i64 op, .int .i64 n, .int .i64 u, .str s, .sl (l.map encX)], cI ((d + 1 : Nat) : Int)] (.pv (cB (decide (n = 0) && decide (u = 0) && nameF s))) := by
  refine ACalls.of_W (qs := [cB (decide (n = 0) && decide (u = 0) && nameF s)]) [4] 104 Try.func43 (by kernel_rfl) rfl rfl rfl fun G => ?_
  refine W.initA (hw := ?_)
  repeat' (first | ((first | apply U_ | (apply Ug_; exact rfl; exact rfl) | (apply Ugq_; exact rfl; exact rfl) | apply Lex.u | (apply Lex.g; exact rfl; exact rfl) | (apply Lex.gq; exact rfl; exact rfl)); (first | (apply Q_litD TYok; (repeat (first | exact EvR.nil | apply EvR.cons Ev.auto)); exact rfl; exact rfl; exact rfl; exact rfl; exact rfl; exact rfl) | exact QX.B TYok | exact QX.Len TYok | exact QX.Idx TYok | exact QX.Fun TYok | exact QCl (operands_ok op) | exact QCl (name_ok s (by omega))); exact rfl) | refine SX.Lit TYok (h := ?_) | refine SX.Box TYok (h := ?_) | refine SC ?_ | (apply S_isnil TYok; exact rfl; exact rfl; exact rfl; exact Ev.auto; intro bn hnil) | (apply RG.gT; exact rfl; exact rfl; (first | assumption | decide)) | (apply RG.gF; exact rfl; exact rfl; (first | assumption | decide | (rw [ne_eq, Bool.not_eq_true]; assumption) | (rw [ne_eq, Bool.not_eq_false]; assumption)); exact rfl) | (apply W.draw2 (id := 1) [0, 1, 3, 7, 15, 31, 7, 71, 199, 511, 1023] [[3], [6], [7], [2, 8], [9, 8], [10, 8], [2, 8], [12, 8], [13, 8], [11, 14, 8], [8, 15]] 11 [(6, 8), (7, 64), (8, 128), (9, 260), (10, 768), (11, 1280), (12, 260), (13, 4352), (14, 8448), (15, 18688), (16, 33024)] mixed (by kernel_rfl) rfl rfl) | (apply W.draw2 (id := 16) [0, 1, 3, 7, 15, 31, 63, 127, 255, 511, 1023, 2047, 4095, 8191, 16383, 32767, 65535, 131071, 262143, 32767, 557055, 2097151, 4194303, 8388607] [[2], [61], [62], [63], [2, 64], [65, 64], [66, 64], [64, 67], [68], [2, 69], [70, 69], [71, 69], [72, 69], [69, 73], [74], [2, 75], [76, 75], [77, 75], [78, 75], [3, 75], [80, 75], [79, 81, 75], [75, 82], [83]] 24 [(61, 4), (62, 2305843009213693952), (63, 4611686018427387904), (64, 9223372036854775808), (65, 18446744073709551620), (66, 55340232221128654848), (67, 92233720368547758080), (68, 166020696663385964544), (69, 295147905179352825856), (70, 590295810358705651716), (71, 1770887431076116955136), (72, 2951479051793528258560), (73, 5312662293228350865408), (74, 10035028776097996079104), (75, 18889465931478580854784), (76, 37778931862957161709572), (77, 113336795588871485128704), (78, 188894659314785808547840), (79, 340010386766614455386112), (80, 37778931862957161709576), (81, 1246704751477586336415744), (82, 3060093480899530098475008), (83, 4873482210321473860534272), (4, 9671406556917033397649408)] mixed (by kernel_rfl) rfl rfl) | (refine W.condA (ht := fun hb => ?_) (hf := fun hb => ?_) <;> (try simp at hb) <;> (try (exfalso; omega))))
  all_goals exact Fin.ret ResL.auto
theorem rightE_a {op : Int} (h0 : ¬ op = 0) (h1 : ¬ (op = 1 ∨ op = 2 ∨ op = 3)) (h2 : ¬ (op = 16 ∨ op = 17 ∨ op = 18))
    {d : Nat} {n u : Int} {s : Str} {l : List Exp} (hs : s.length ≤ 9223372036854775807) (hl : l.length ≤ 9223372036854775807) (hlen : (l.length : Int) = opsF op)
    (hdc : (((d + 1 : Nat) : Int)) ≠ 0) (hdb : (d : Int) ≤ 100) (ih : ∀ x ∈ l, ACalls Try.prog 43 [aE x, cI (((d + 1 : Nat) : Int) - 1)] (.pv (cB (rightF d x)))) (cl : ∀ x ∈ l, ACalls Try.prog 61 [aE x, .one (.ptr [.int .i64 ((d + 1 : Nat) : Int)])] (.pv (cB (!rightF d x))))
    (hC : (decide (n = 0) && decide (u = 0) && decide (s = E0)) = false) : ACalls Try.prog 43 [.agg [.int .i64 op, .int .i64 n, .int .i64 u, .str s, .sl (l.map encX)], cI ((d + 1 : Nat) : Int)] (.pv (cB false)) := by
  refine ACalls.of_W (qs := [cB false]) [4] 104 Try.func43 (by kernel_rfl) rfl rfl rfl fun G => ?_
  refine W.initA (hw := ?_)
  repeat' (first | ((first | apply U_ | (apply Ug_; exact rfl; exact rfl) | (apply Ugq_; exact rfl; exact rfl) | apply Lex.u | (apply Lex.g; exact rfl; exact rfl) | (apply Lex.gq; exact rfl; exact rfl)); (first | (apply Q_litD TYok; (repeat (first | exact EvR.nil | apply EvR.cons Ev.auto)); exact rfl; exact rfl; exact rfl; exact rfl; exact rfl; exact rfl) | exact QX.B TYok | exact QX.Len TYok | exact QX.Idx TYok | exact QX.Fun TYok | exact QCl (operands_ok op)); exact rfl) | refine SX.Lit TYok (h := ?_) | refine SX.Box TYok (h := ?_) | refine SC ?_ | (apply S_isnil TYok; exact rfl; exact rfl; exact rfl; exact Ev.auto; intro bn hnil) | (apply RG.gT; exact rfl; exact rfl; (first | assumption | decide)) | (apply RG.gF; exact rfl; exact rfl; (first | assumption | decide | (rw [ne_eq, Bool.not_eq_true]; assumption) | (rw [ne_eq, Bool.not_eq_false]; assumption)); exact rfl) | (apply W.draw2 (id := 1) [0, 1, 3, 7, 15, 31, 7, 71, 199, 511, 1023] [[3], [6], [7], [2, 8], [9, 8], [10, 8], [2, 8], [12, 8], [13, 8], [11, 14, 8], [8, 15]] 11 [(6, 8), (7, 64), (8, 128), (9, 260), (10, 768), (11, 1280), (12, 260), (13, 4352), (14, 8448), (15, 18688), (16, 33024)] mixed (by kernel_rfl) rfl rfl) | (apply W.draw2 (id := 16) [0, 1, 3, 7, 15, 31, 63, 127, 255, 511, 1023, 2047, 4095, 8191, 16383, 32767, 65535, 131071, 262143, 32767, 557055, 2097151, 4194303, 8388607] [[2], [61], [62], [63], [2, 64], [65, 64], [66, 64], [64, 67], [68], [2, 69], [70, 69], [71, 69], [72, 69], [69, 73], [74], [2, 75], [76, 75], [77, 75], [78, 75], [3, 75], [80, 75], [79, 81, 75], [75, 82], [83]] 24 [(61, 4), (62, 2305843009213693952), (63, 4611686018427387904), (64, 9223372036854775808), (65, 18446744073709551620), (66, 55340232221128654848), (67, 92233720368547758080), (68, 166020696663385964544), (69, 295147905179352825856), (70, 590295810358705651716), (71, 1770887431076116955136), (72, 2951479051793528258560), (73, 5312662293228350865408), (74, 10035028776097996079104), (75, 18889465931478580854784), (76, 37778931862957161709572), (77, 113336795588871485128704), (78, 188894659314785808547840), (79, 340010386766614455386112), (80, 37778931862957161709576), (81, 1246704751477586336415744), (82, 3060093480899530098475008), (83, 4873482210321473860534272), (4, 9671406556917033397649408)] mixed (by kernel_rfl) rfl rfl) | (refine W.condA (ht := fun hb => ?_) (hf := fun hb => ?_) <;> (try simp at hb) <;> (try (exfalso; omega))))
  all_goals exact Fin.ret ResL.auto
theorem rightE_c {op : Int} (h0 : ¬ op = 0) (h1 : ¬ (op = 1 ∨ op = 2 ∨ op = 3)) (h2 : ¬ (op = 16 ∨ op = 17 ∨ op = 18))
    {d : Nat} {n u : Int} {s : Str} {l : List Exp} (hs : s.length ≤ 9223372036854775807) (hl : l.length ≤ 9223372036854775807) (hlen : (l.length : Int) = opsF op)
    (hdc : (((d + 1 : Nat) : Int)) ≠ 0) (hdb : (d : Int) ≤ 100) (ih : ∀ x ∈ l, ACalls Try.prog 43 [aE x, cI (((d + 1 : Nat) : Int) - 1)] (.pv (cB (rightF d x)))) (cl : ∀ x ∈ l, ACalls Try.prog 61 [aE x, .one (.ptr [.int .i64 ((d + 1 : Nat) : Int)])] (.pv (cB (!rightF d x))))
    (hC : (decide (n = 0) && decide (u = 0) && decide (s = E0)) = true) : ACalls Try.prog 43 [.agg [.int .i64 op, .int .i64 n, .int .i64 u, .str s, .sl (l.map encX)], cI ((d + 1 : Nat) : Int)] (.pv (cB (decide (n = 0) && decide (u = 0) && decide (s = E0) && !(l.any fun x => !rightF d x)))) := by
  refine ACalls.of_W (qs := [cB (decide (n = 0) && decide (u = 0) && decide (s = E0) && !(l.any fun x => !rightF d x))]) [4] 104 Try.func43 (by kernel_rfl) rfl rfl rfl fun G => ?_
  refine W.initA (hw := ?_)
  repeat' (first | ((first | apply U_ | (apply Ug_; exact rfl; exact rfl) | (apply Ugq_; exact rfl; exact rfl) | apply Lex.u | (apply Lex.g; exact rfl; exact rfl) | (apply Lex.gq; exact rfl; exact rfl)); (first | (apply Q_litD TYok; (repeat (first | exact EvR.nil | apply EvR.cons Ev.auto)); exact rfl; exact rfl; exact rfl; exact rfl; exact rfl; exact rfl) | exact QX.B TYok | exact QX.Len TYok | exact QX.Idx TYok | exact QX.Fun TYok | exact QCl (operands_ok op) | exact QCd (containsE_ok l 61 [.ptr [.int .i64 ((d + 1 : Nat) : Int)]] (fun x => !rightF d x) hl cl)); exact rfl) | refine SX.Lit TYok (h := ?_) | refine SX.Box TYok (h := ?_) | (refine S_makeFuncF (cs := [.ptr [.int .i64 ((d + 1 : Nat) : Int)]]) (EvC.cons Ev.auto EvC.nil) ?_ ?_; exact rfl) | refine SC ?_ | (apply S_isnil TYok; exact rfl; exact rfl; exact rfl; exact Ev.auto; intro bn hnil) | (apply RG.gT; exact rfl; exact rfl; (first | assumption | decide)) | (apply RG.gF; exact rfl; exact rfl; (first | assumption | decide | (rw [ne_eq, Bool.not_eq_true]; assumption) | (rw [ne_eq, Bool.not_eq_false]; assumption)); exact rfl) | (apply W.draw2 (id := 1) [0, 1, 3, 7, 15, 31, 7, 71, 199, 511, 1023] [[3], [6], [7], [2, 8], [9, 8], [10, 8], [2, 8], [12, 8], [13, 8], [11, 14, 8], [8, 15]] 11 [(6, 8), (7, 64), (8, 128), (9, 260), (10, 768), (11, 1280), (12, 260), (13, 4352), (14, 8448), (15, 18688), (16, 33024)] mixed (by kernel_rfl) rfl rfl) | (apply W.draw2 (id := 16) [0, 1, 3, 7, 15, 31, 63, 127, 255, 511, 1023, 2047, 4095, 8191, 16383, 32767, 65535, 131071, 262143, 32767, 557055, 2097151, 4194303, 8388607] [[2], [61], [62], [63], [2, 64], [65, 64], [66, 64], [64, 67], [68], [2, 69], [70, 69], [71, 69], [72, 69], [69, 73], [74], [2, 75], [76, 75], [77, 75], [78, 75], [3, 75], [80, 75], [79, 81, 75], [75, 82], [83]] 24 [(61, 4), (62, 2305843009213693952), (63, 4611686018427387904), (64, 9223372036854775808), (65, 18446744073709551620), (66, 55340232221128654848), (67, 92233720368547758080), (68, 166020696663385964544), (69, 295147905179352825856), (70, 590295810358705651716), (71, 1770887431076116955136), (72, 2951479051793528258560), (73, 5312662293228350865408), (74, 10035028776097996079104), (75, 18889465931478580854784), (76, 37778931862957161709572), (77, 113336795588871485128704), (78, 188894659314785808547840), (79, 340010386766614455386112), (80, 37778931862957161709576), (81, 1246704751477586336415744), (82, 3060093480899530098475008), (83, 4873482210321473860534272), (4, 9671406556917033397649408)] mixed (by kernel_rfl) rfl rfl) | (refine W.condA (ht := fun hb => ?_) (hf := fun hb => ?_) <;> (try simp at hb) <;> (try (exfalso; omega))))
  all_goals exact Fin.ret ResL.auto
theorem rightN_ok {op : Int} {d : Nat} {n u : Int} {s : Str} {l : List Exp} (hs : s.length ≤ 9223372036854775807) (hl : l.length ≤ 9223372036854775807) (hlen : ¬ (l.length : Int) = opsF op) (hdb : (d : Int) ≤ 101) : ACalls Try.prog 43 [.agg [.int .i64 op, .int .i64 n, .int .i64 u, .str s, .sl (l.map encX)], cI (d : Int)] (.pv (cB false)) := by
  refine ACalls.of_W (qs := [cB false]) [4] 104 Try.func43 (by kernel_rfl) rfl rfl rfl fun G => ?_
  refine W.initA (hw := ?_)
  repeat' (first | ((first | apply U_ | (apply Ug_; exact rfl; exact rfl) | (apply Ugq_; exact rfl; exact rfl) | apply Lex.u | (apply Lex.g; exact rfl; exact rfl) | (apply Lex.gq; exact rfl; exact rfl)); (first | (apply Q_litD TYok; (repeat (first | exact EvR.nil | apply EvR.cons Ev.auto)); exact rfl; exact rfl; exact rfl; exact rfl; exact rfl; exact rfl) | exact QX.B TYok | exact QX.Len TYok | exact QX.Idx TYok | exact QX.Fun TYok | exact QCl (operands_ok op)); exact rfl) | refine SX.Lit TYok (h := ?_) | refine SX.Box TYok (h := ?_) | refine SC ?_ | (apply S_isnil TYok; exact rfl; exact rfl; exact rfl; exact Ev.auto; intro bn hnil) | (apply RG.gT; exact rfl; exact rfl; (first | assumption | decide)) | (apply RG.gF; exact rfl; exact rfl; (first | assumption | decide | (rw [ne_eq, Bool.not_eq_true]; assumption) | (rw [ne_eq, Bool.not_eq_false]; assumption)); exact rfl) | (apply W.draw2 (id := 1) [0, 1, 3, 7, 15, 31, 7, 71, 199, 511, 1023] [[3], [6], [7], [2, 8], [9, 8], [10, 8], [2, 8], [12, 8], [13, 8], [11, 14, 8], [8, 15]] 11 [(6, 8), (7, 64), (8, 128), (9, 260), (10, 768), (11, 1280), (12, 260), (13, 4352), (14, 8448), (15, 18688), (16, 33024)] mixed (by kernel_rfl) rfl rfl) | (apply W.draw2 (id := 16) [0, 1, 3, 7, 15, 31, 63, 127, 255, 511, 1023, 2047, 4095, 8191, 16383, 32767, 65535, 131071, 262143, 32767, 557055, 2097151, 4194303, 8388607] [[2], [61], [62], [63], [2, 64], [65, 64], [66, 64], [64, 67], [68], [2, 69], [70, 69], [71, 69], [72, 69], [69, 73], [74], [2, 75], [76, 75], [77, 75], [78, 75], [3, 75], [80, 75], [79, 81, 75], [75, 82], [83]] 24 [(61, 4), (62, 2305843009213693952), (63, 4611686018427387904), (64, 9223372036854775808), (65, 18446744073709551620), (66, 55340232221128654848), (67, 92233720368547758080), (68, 166020696663385964544), (69, 295147905179352825856), (70, 590295810358705651716), (71, 1770887431076116955136), (72, 2951479051793528258560), (73, 5312662293228350865408), (74, 10035028776097996079104), (75, 18889465931478580854784), (76, 37778931862957161709572), (77, 113336795588871485128704), (78, 188894659314785808547840), (79, 340010386766614455386112), (80, 37778931862957161709576), (81, 1246704751477586336415744), (82, 3060093480899530098475008), (83, 4873482210321473860534272), (4, 9671406556917033397649408)] mixed (by kernel_rfl) rfl rfl) | (refine W.condA (ht := fun hb => ?_) (hf := fun hb => ?_) <;> (try simp at hb) <;> (try (exfalso; omega))))
  all_goals exact Fin.ret ResL.auto
theorem right00_ok {op : Int} {n u : Int} {s : Str} {l : List Exp} (hs : s.length ≤ 9223372036854775807) (hl : l.length ≤ 9223372036854775807) : ACalls Try.prog 43 [.agg [.int .i64 op, .int .i64 n, .int .i64 u, .str s, .sl (l.map encX)], cI ((0 : Nat) : Int)] (.pv (cB false)) := by
  refine ACalls.of_W (qs := [cB false]) [4] 104 Try.func43 (by kernel_rfl) rfl rfl rfl fun G => ?_
  refine W.initA (hw := ?_)
  repeat' (first | ((first | apply U_ | (apply Ug_; exact rfl; exact rfl) | (apply Ugq_; exact rfl; exact rfl) | apply Lex.u | (apply Lex.g; exact rfl; exact rfl) | (apply Lex.gq; exact rfl; exact rfl)); (first | (apply Q_litD TYok; (repeat (first | exact EvR.nil | apply EvR.cons Ev.auto)); exact rfl; exact rfl; exact rfl; exact rfl; exact rfl; exact rfl) | exact QX.B TYok | exact QX.Len TYok | exact QX.Idx TYok | exact QX.Fun TYok | exact QCl (operands_ok op)); exact rfl) | refine SX.Lit TYok (h := ?_) | refine SX.Box TYok (h := ?_) | refine SC ?_ | (apply S_isnil TYok; exact rfl; exact rfl; exact rfl; exact Ev.auto; intro bn hnil) | (apply RG.gT; exact rfl; exact rfl; (first | assumption | decide)) | (apply RG.gF; exact rfl; exact rfl; (first | assumption | decide | (rw [ne_eq, Bool.not_eq_true]; assumption) | (rw [ne_eq, Bool.not_eq_false]; assumption)); exact rfl) | (apply W.draw2 (id := 1) [0, 1, 3, 7, 15, 31, 7, 71, 199, 511, 1023] [[3], [6], [7], [2, 8], [9, 8], [10, 8], [2, 8], [12, 8], [13, 8], [11, 14, 8], [8, 15]] 11 [(6, 8), (7, 64), (8, 128), (9, 260), (10, 768), (11, 1280), (12, 260), (13, 4352), (14, 8448), (15, 18688), (16, 33024)] mixed (by kernel_rfl) rfl rfl) | (apply W.draw2 (id := 16) [0, 1, 3, 7, 15, 31, 63, 127, 255, 511, 1023, 2047, 4095, 8191, 16383, 32767, 65535, 131071, 262143, 32767, 557055, 2097151, 4194303, 8388607] [[2], [61], [62], [63], [2, 64], [65, 64], [66, 64], [64, 67], [68], [2, 69], [70, 69], [71, 69], [72, 69], [69, 73], [74], [2, 75], [76, 75], [77, 75], [78, 75], [3, 75], [80, 75], [79, 81, 75], [75, 82], [83]] 24 [(61, 4), (62, 2305843009213693952), (63, 4611686018427387904), (64, 9223372036854775808), (65, 18446744073709551620), (66, 55340232221128654848), (67, 92233720368547758080), (68, 166020696663385964544), (69, 295147905179352825856), (70, 590295810358705651716), (71, 1770887431076116955136), (72, 2951479051793528258560), (73, 5312662293228350865408), (74, 10035028776097996079104), (75, 18889465931478580854784), (76, 37778931862957161709572), (77, 113336795588871485128704), (78, 188894659314785808547840), (79, 340010386766614455386112), (80, 37778931862957161709576), (81, 1246704751477586336415744), (82, 3060093480899530098475008), (83, 4873482210321473860534272), (4, 9671406556917033397649408)] mixed (by kernel_rfl) rfl rfl) | (refine W.condA (ht := fun hb => ?_) (hf := fun hb => ?_) <;> (try simp at hb) <;> (try (exfalso; omega))))
  all_goals exact Fin.ret ResL.auto
theorem right1c_ok (d : Nat) (x : Exp) (ih : ACalls Try.prog 43 [aE x, cI (((d + 1 : Nat) : Int) - 1)] (.pv (cB (rightF d x)))) (hdb : (d : Int) ≤ 100) : ACalls Try.prog 61 [aE x, .one (.ptr [.int .i64 ((d + 1 : Nat) : Int)])] (.pv (cB (!rightF d x))) := by
  refine ACalls.of_W (qs := [cB (!rightF d x)]) [3] 9 Try.func61 (by kernel_rfl) rfl rfl rfl fun G => ?_
  refine W.initA (hw := ?_)
  repeat' (first | ((first | apply U_ | apply Lex.u | (apply Lex.g; exact rfl; exact rfl) | (apply Lex.gq; exact rfl; exact rfl)); (first | (apply Q_litD TYok; (repeat (first | exact EvR.nil | apply EvR.cons Ev.auto)); exact rfl; exact rfl; exact rfl; exact rfl; exact rfl; exact rfl) | exact QX.B TYok | exact QCl (ih)); exact rfl) | refine SX.Box TYok (h := ?_) | refine SC ?_ | (refine W.condA (ht := fun hb => ?_) (hf := fun hb => ?_) <;> (try simp at hb) <;> (try (exfalso; omega))))
  exact Fin.ret ResL.auto
end Go.Proofs.Ytppdbmobcfedcaa
end
section
set_option linter.unusedVariables false
set_option linter.unusedSimpArgs false
set_option maxHeartbeats 8000000
set_option linter.unusedSectionVars false
namespace Go.Proofs.Ytppdbmobcfedcaa
open Lf Go
attribute [local irreducible] PureOp EffOp Ev RG W Then InBlock Lf.Fin nth App InitE Pick SubE EvL EvD EvP EvR ResL Lf.Lex SubR SubBR RA RAll EvC FinO FinM ResM
theorem right16_all
    {d : Nat} {n u : Int} {s : Str} {l : List Exp} (hs : s.length ≤ 9223372036854775807) (hl : l.length ≤ 9223372036854775807) (hlen : (l.length : Int) = opsF 16)
    (hdc : (((d + 1 : Nat) : Int)) ≠ 0) (hdb : (d : Int) ≤ 100) (ih : ∀ x ∈ l, ACalls Try.prog 43 [aE x, cI (((d + 1 : Nat) : Int) - 1)] (.pv (cB (rightF d x)))) : ACalls Try.prog 43 [.agg [.int .i64 16, .int .i64 n, .int .i64 u, .str s, .sl (l.map encX)], cI ((d + 1 : Nat) : Int)] (.pv (cB (decide (u = 0) && decide (s = E0) && [n].all (inF 1 1000) && rightF d (nth l 0)))) := by
  have hl1 : 0 < l.length := by
    have : opsF 16 = 1 := by decide
    omega
  have h1 := in_ok 1 1000 [n] (by simp)
  have h2 := ih (nth l 0) (nth_mem hl1)
  generalize [n].all (inF 1 1000) = b1 at *
  generalize rightF d (nth l 0) = b2 at *
  refine ACalls.of_W (qs := [cB (decide (u = 0) && decide (s = E0) && b1 && b2)]) [4] 104 Try.func43 (by kernel_rfl) rfl rfl rfl fun G => ?_
  refine W.initA (hw := ?_)
  repeat' (first | ((first | apply U_ | (apply Ug_; exact rfl; exact rfl) | (apply Ugq_; exact rfl; exact rfl) | apply Lex.u | (apply Lex.g; exact rfl; exact rfl) | (apply Lex.gq; exact rfl; exact rfl)); (first | (apply Q_litD TYok; (repeat (first | exact EvR.nil | apply EvR.cons Ev.auto)); exact rfl; exact rfl; exact rfl; exact rfl; exact rfl; exact rfl) | (apply Q_litDp TYok; (intro hp; apply EvR.cons Ev.auto; (repeat (first | exact EvR.nil | apply EvR.cons Ev.auto))); exact rfl; exact rfl; exact rfl; exact rfl; exact rfl; exact rfl) | exact QX.B TYok | exact QX.Len TYok | exact QX.Idx TYok | exact QX.Fun TYok | exact QCl (operands_ok 16) | exact QCd (h1) | exact QCd (h2)); exact rfl) | refine SX.Lit TYok (h := ?_) | refine SX.Box TYok (h := ?_) | refine SC ?_ | (apply S_isnil TYok; exact rfl; exact rfl; exact rfl; exact Ev.auto; intro bn hnil) | (apply RG.gT; exact rfl; exact rfl; (first | assumption | decide)) | (apply RG.gF; exact rfl; exact rfl; (first | assumption | decide | (rw [ne_eq, Bool.not_eq_true]; assumption) | (rw [ne_eq, Bool.not_eq_false]; assumption)); exact rfl) | (apply W.draw2 (id := 1) [0, 1, 3, 7, 15, 31, 7, 71, 199, 511, 1023] [[3], [6], [7], [2, 8], [9, 8], [10, 8], [2, 8], [12, 8], [13, 8], [11, 14, 8], [8, 15]] 11 [(6, 8), (7, 64), (8, 128), (9, 260), (10, 768), (11, 1280), (12, 260), (13, 4352), (14, 8448), (15, 18688), (16, 33024)] mixed (by kernel_rfl) rfl rfl) | (apply W.draw2 (id := 16) [0, 1, 3, 7, 15, 31, 63, 127, 255, 511, 1023, 2047, 4095, 8191, 16383, 32767, 65535, 131071, 262143, 32767, 557055, 2097151, 4194303, 8388607] [[2], [61], [62], [63], [2, 64], [65, 64], [66, 64], [64, 67], [68], [2, 69], [70, 69], [71, 69], [72, 69], [69, 73], [74], [2, 75], [76, 75], [77, 75], [78, 75], [3, 75], [80, 75], [79, 81, 75], [75, 82], [83]] 24 [(61, 4), (62, 2305843009213693952), (63, 4611686018427387904), (64, 9223372036854775808), (65, 18446744073709551620), (66, 55340232221128654848), (67, 92233720368547758080), (68, 166020696663385964544), (69, 295147905179352825856), (70, 590295810358705651716), (71, 1770887431076116955136), (72, 2951479051793528258560), (73, 5312662293228350865408), (74, 10035028776097996079104), (75, 18889465931478580854784), (76, 37778931862957161709572), (77, 113336795588871485128704), (78, 188894659314785808547840), (79, 340010386766614455386112), (80, 37778931862957161709576), (81, 1246704751477586336415744), (82, 3060093480899530098475008), (83, 4873482210321473860534272), (4, 9671406556917033397649408)] mixed (by kernel_rfl) rfl rfl) | (refine W.condA (ht := fun hb => ?_) (hf := fun hb => ?_) <;> (try simp at hb) <;> (try (exfalso; omega))))
  all_goals exact Fin.ret ResL.auto
theorem right16_a
    {d : Nat} {n u : Int} {s : Str} {l : List Exp} (hs : s.length ≤ 9223372036854775807) (hl : l.length ≤ 9223372036854775807) (hlen : (l.length : Int) = opsF 16)
    (hdc : (((d + 1 : Nat) : Int)) ≠ 0) (hdb : (d : Int) ≤ 100) (ih : ∀ x ∈ l, ACalls Try.prog 43 [aE x, cI (((d + 1 : Nat) : Int) - 1)] (.pv (cB (rightF d x)))) (cl : ∀ x ∈ l, ACalls Try.prog 61 [aE x, .one (.ptr [.int .i64 ((d + 1 : Nat) : Int)])] (.pv (cB (!rightF d x))))
    (hA : (decide (u = 0) && decide (s = E0)) = false) : ACalls Try.prog 43 [.agg [.int .i64 16, .int .i64 n, .int .i64 u, .str s, .sl (l.map encX)], cI ((d + 1 : Nat) : Int)] (.pv (cB false)) := by
  have := right16_all hs hl hlen hdc hdb ih (n := n) (u := u)
  rw [hA, Bool.false_and, Bool.false_and] at this
  exact this
theorem right16_b
    {d : Nat} {n u : Int} {s : Str} {l : List Exp} (hs : s.length ≤ 9223372036854775807) (hl : l.length ≤ 9223372036854775807) (hlen : (l.length : Int) = opsF 16)
    (hdc : (((d + 1 : Nat) : Int)) ≠ 0) (hdb : (d : Int) ≤ 100) (ih : ∀ x ∈ l, ACalls Try.prog 43 [aE x, cI (((d + 1 : Nat) : Int) - 1)] (.pv (cB (rightF d x)))) (cl : ∀ x ∈ l, ACalls Try.prog 61 [aE x, .one (.ptr [.int .i64 ((d + 1 : Nat) : Int)])] (.pv (cB (!rightF d x))))
    (hA : (decide (u = 0) && decide (s = E0)) = true) (hB : [n].all (inF 1 1000) = false) : ACalls Try.prog 43 [.agg [.int .i64 16, .int .i64 n, .int .i64 u, .str s, .sl (l.map encX)], cI ((d + 1 : Nat) : Int)] (.pv (cB false)) := by
  have := right16_all hs hl hlen hdc hdb ih (n := n) (u := u)
  rw [hA, hB, Bool.true_and, Bool.false_and] at this
  exact this
theorem right16_c
    {d : Nat} {n u : Int} {s : Str} {l : List Exp} (hs : s.length ≤ 9223372036854775807) (hl : l.length ≤ 9223372036854775807) (hlen : (l.length : Int) = opsF 16)
    (hdc : (((d + 1 : Nat) : Int)) ≠ 0) (hdb : (d : Int) ≤ 100) (ih : ∀ x ∈ l, ACalls Try.prog 43 [aE x, cI (((d + 1 : Nat) : Int) - 1)] (.pv (cB (rightF d x)))) (cl : ∀ x ∈ l, ACalls Try.prog 61 [aE x, .one (.ptr [.int .i64 ((d + 1 : Nat) : Int)])] (.pv (cB (!rightF d x))))
    (hl1 : 0 < l.length) (hA : (decide (u = 0) && decide (s = E0)) = true) (hB : [n].all (inF 1 1000) = true) : ACalls Try.prog 43 [.agg [.int .i64 16, .int .i64 n, .int .i64 u, .str s, .sl (l.map encX)], cI ((d + 1 : Nat) : Int)] (.pv (cB (decide (u = 0) && decide (s = E0) && [n].all (inF 1 1000) && rightF d (nth l 0)))) :=
  right16_all hs hl hlen hdc hdb ih
end Go.Proofs.Ytppdbmobcfedcaa
end
section
set_option linter.unusedVariables false
set_option linter.unusedSimpArgs false
set_option maxHeartbeats 8000000
set_option linter.unusedSectionVars false
namespace Go.Proofs.Ytppdbmobcfedcaa
open Lf Go
attribute [local irreducible] PureOp EffOp Ev RG W Then InBlock Lf.Fin nth App InitE Pick SubE EvL EvD EvP EvR ResL Lf.Lex SubR SubBR RA RAll EvC FinO FinM ResM
theorem right17_all
    {d : Nat} {n u : Int} {s : Str} {l : List Exp} (hs : s.length ≤ 9223372036854775807) (hl : l.length ≤ 9223372036854775807) (hlen : (l.length : Int) = opsF 17)
    (hdc : (((d + 1 : Nat) : Int)) ≠ 0) (hdb : (d : Int) ≤ 100) (ih : ∀ x ∈ l, ACalls Try.prog 43 [aE x, cI (((d + 1 : Nat) : Int) - 1)] (.pv (cB (rightF d x)))) : ACalls Try.prog 43 [.agg [.int .i64 17, .int .i64 n, .int .i64 u, .str s, .sl (l.map encX)], cI ((d + 1 : Nat) : Int)] (.pv (cB (decide (u = 0) && decide (s = E0) && [n].all (inF 1 1000) && rightF d (nth l 0)))) := by
  have hl1 : 0 < l.length := by
    have : opsF 17 = 1 := by decide
    omega
  have h1 := in_ok 1 1000 [n] (by simp)
  have h2 := ih (nth l 0) (nth_mem hl1)
  generalize [n].all (inF 1 1000) = b1 at *
  generalize rightF d (nth l 0) = b2 at *
  refine ACalls.of_W (qs := [cB (decide (u = 0) && decide (s = E0) && b1 && b2)]) [4] 104 Try.func43 (by kernel_rfl) rfl rfl rfl fun G => ?_
  refine W.initA (hw := ?_)
  repeat' (first | ((first | apply U_ | (apply Ug_; exact rfl; exact rfl) | (apply Ugq_; exact rfl; exact rfl) | apply Lex.u | (apply Lex.g; exact rfl; exact rfl) | (apply Lex.gq; exact rfl; exact rfl)); (first | (apply Q_litD TYok; (repeat (first | exact EvR.nil | apply EvR.cons Ev.auto)); exact rfl; exact rfl; exact rfl; exact rfl; exact rfl; exact rfl) | (apply Q_litDp TYok; (intro hp; apply EvR.cons Ev.auto; (repeat (first | exact EvR.nil | apply EvR.cons Ev.auto))); exact rfl; exact rfl; exact rfl; exact rfl; exact rfl; exact rfl) | exact QX.B TYok | exact QX.Len TYok | exact QX.Idx TYok | exact QX.Fun TYok | exact QCl (operands_ok 17) | exact QCd (h1) | exact QCd (h2)); exact rfl) | refine SX.Lit TYok (h := ?_) | refine SX.Box TYok (h := ?_) | refine SC ?_ | (apply S_isnil TYok; exact rfl; exact rfl; exact rfl; exact Ev.auto; intro bn hnil) | (apply RG.gT; exact rfl; exact rfl; (first | assumption | decide)) | (apply RG.gF; exact rfl; exact rfl; (first | assumption | decide | (rw [ne_eq, Bool.not_eq_true]; assumption) | (rw [ne_eq, Bool.not_eq_false]; assumption)); exact rfl) | (apply W.draw2 (id := 1) [0, 1, 3, 7, 15, 31, 7, 71, 199, 511, 1023] [[3], [6], [7], [2, 8], [9, 8], [10, 8], [2, 8], [12, 8], [13, 8], [11, 14, 8], [8, 15]] 11 [(6, 8), (7, 64), (8, 128), (9, 260), (10, 768), (11, 1280), (12, 260), (13, 4352), (14, 8448), (15, 18688), (16, 33024)] mixed (by kernel_rfl) rfl rfl) | (apply W.draw2 (id := 16) [0, 1, 3, 7, 15, 31, 63, 127, 255, 511, 1023, 2047, 4095, 8191, 16383, 32767, 65535, 131071, 262143, 32767, 557055, 2097151, 4194303, 8388607] [[2], [61], [62], [63], [2, 64], [65, 64], [66, 64], [64, 67], [68], [2, 69], [70, 69], [71, 69], [72, 69], [69, 73], [74], [2, 75], [76, 75], [77, 75], [78, 75], [3, 75], [80, 75], [79, 81, 75], [75, 82], [83]] 24 [(61, 4), (62, 2305843009213693952), (63, 4611686018427387904), (64, 9223372036854775808), (65, 18446744073709551620), (66, 55340232221128654848), (67, 92233720368547758080), (68, 166020696663385964544), (69, 295147905179352825856), (70, 590295810358705651716), (71, 1770887431076116955136), (72, 2951479051793528258560), (73, 5312662293228350865408), (74, 10035028776097996079104), (75, 18889465931478580854784), (76, 37778931862957161709572), (77, 113336795588871485128704), (78, 188894659314785808547840), (79, 340010386766614455386112), (80, 37778931862957161709576), (81, 1246704751477586336415744), (82, 3060093480899530098475008), (83, 4873482210321473860534272), (4, 9671406556917033397649408)] mixed (by kernel_rfl) rfl rfl) | (refine W.condA (ht := fun hb => ?_) (hf := fun hb => ?_) <;> (try simp at hb) <;> (try (exfalso; omega))))
  all_goals exact Fin.ret ResL.auto
theorem right17_a
    {d : Nat} {n u : Int} {s : Str} {l : List Exp} (hs : s.length ≤ 9223372036854775807) (hl : l.length ≤ 9223372036854775807) (hlen : (l.length : Int) = opsF 17)
    (hdc : (((d + 1 : Nat) : Int)) ≠ 0) (hdb : (d : Int) ≤ 100) (ih : ∀ x ∈ l, ACalls Try.prog 43 [aE x, cI (((d + 1 : Nat) : Int) - 1)] (.pv (cB (rightF d x)))) (cl : ∀ x ∈ l, ACalls Try.prog 61 [aE x, .one (.ptr [.int .i64 ((d + 1 : Nat) : Int)])] (.pv (cB (!rightF d x))))
    (hA : (decide (u = 0) && decide (s = E0)) = false) : ACalls Try.prog 43 [.agg [.int .i64 17, .int .i64 n, .int .i64 u, .str s, .sl (l.map encX)], cI ((d + 1 : Nat) : Int)] (.pv (cB false)) := by
  have := right17_all hs hl hlen hdc hdb ih (n := n) (u := u)
  rw [hA, Bool.false_and, Bool.false_and] at this
  exact this
theorem right17_b
    {d : Nat} {n u : Int} {s : Str} {l : List Exp} (hs : s.length ≤ 9223372036854775807) (hl : l.length ≤ 9223372036854775807) (hlen : (l.length : Int) = opsF 17)
    (hdc : (((d + 1 : Nat) : Int)) ≠ 0) (hdb : (d : Int) ≤ 100) (ih : ∀ x ∈ l, ACalls Try.prog 43 [aE x, cI (((d + 1 : Nat) : Int) - 1)] (.pv (cB (rightF d x)))) (cl : ∀ x ∈ l, ACalls Try.prog 61 [aE x, .one (.ptr [.int .i64 ((d + 1 : Nat) : Int)])] (.pv (cB (!rightF d x))))
    (hA : (decide (u = 0) && decide (s = E0)) = true) (hB : [n].all (inF 1 1000) = false) : ACalls Try.prog 43 [.agg [.int .i64 17, .int .i64 n, .int .i64 u, .str s, .sl (l.map encX)], cI ((d + 1 : Nat) : Int)] (.pv (cB false)) := by
  have := right17_all hs hl hlen hdc hdb ih (n := n) (u := u)
  rw [hA, hB, Bool.true_and, Bool.false_and] at this
  exact this
theorem right17_c
    {d : Nat} {n u : Int} {s : Str} {l : List Exp} (hs : s.length ≤ 9223372036854775807) (hl : l.length ≤ 9223372036854775807) (hlen : (l.length : Int) = opsF 17)
    (hdc : (((d + 1 : Nat) : Int)) ≠ 0) (hdb : (d : Int) ≤ 100) (ih : ∀ x ∈ l, ACalls Try.prog 43 [aE x, cI (((d + 1 : Nat) : Int) - 1)] (.pv (cB (rightF d x)))) (cl : ∀ x ∈ l, ACalls Try.prog 61 [aE x, .one (.ptr [.int .i64 ((d + 1 : Nat) : Int)])] (.pv (cB (!rightF d x))))
    (hl1 : 0 < l.length) (hA : (decide (u = 0) && decide (s = E0)) = true) (hB : [n].all (inF 1 1000) = true) : ACalls Try.prog 43 [.agg [.int .i64 17, .int .i64 n, .int .i64 u, .str s, .sl (l.map encX)], cI ((d + 1 : Nat) : Int)] (.pv (cB (decide (u = 0) && decide (s = E0) && [n].all (inF 1 1000) && rightF d (nth l 0)))) :=
  right17_all hs hl hlen hdc hdb ih
end Go.Proofs.Ytppdbmobcfedcaa
end
section
set_option linter.unusedVariables false
set_option linter.unusedSimpArgs false
set_option maxHeartbeats 8000000
set_option linter.unusedSectionVars false
namespace Go.Proofs.Ytppdbmobcfedcaa
open Lf Go
attribute [local irreducible] PureOp EffOp Ev RG W Then InBlock Lf.Fin nth App InitE Pick SubE EvL EvD EvP EvR ResL Lf.Lex SubR SubBR RA RAll EvC FinO FinM ResM
theorem right18_all
    {d : Nat} {n u : Int} {s : Str} {l : List Exp} (hs : s.length ≤ 9223372036854775807) (hl : l.length ≤ 9223372036854775807) (hlen : (l.length : Int) = opsF 18)
    (hdc : (((d + 1 : Nat) : Int)) ≠ 0) (hdb : (d : Int) ≤ 100) (ih : ∀ x ∈ l, ACalls Try.prog 43 [aE x, cI (((d + 1 : Nat) : Int) - 1)] (.pv (cB (rightF d x)))) : ACalls Try.prog 43 [.agg [.int .i64 18, .int .i64 n, .int .i64 u, .str s, .sl (l.map encX)], cI ((d + 1 : Nat) : Int)] (.pv (cB (decide (u = 0) && decide (s = E0) && [n].all (inF 1 1000) && rightF d (nth l 0)))) := by
  have hl1 : 0 < l.length := by
    have : opsF 18 = 1 := by decide
    omega
  have h1 := in_ok 1 1000 [n] (by simp)
  have h2 := ih (nth l 0) (nth_mem hl1)
  generalize [n].all (inF 1 1000) = b1 at *
  generalize rightF d (nth l 0) = b2 at *
  refine ACalls.of_W (qs := [cB (decide (u = 0) && decide (s = E0) && b1 && b2)]) [4] 104 Try.func43 (by kernel_rfl) rfl rfl rfl fun G => ?_
  refine W.initA (hw := ?_)
  repeat' (first | ((first | apply U_ | (apply Ug_; exact rfl; exact rfl) | (apply Ugq_; exact rfl; exact rfl) | apply Lex.u | (apply Lex.g; exact rfl; exact rfl) | (apply Lex.gq; exact rfl; exact rfl)); (first | (apply Q_litD TYok; (repeat (first | exact EvR.nil | apply EvR.cons Ev.auto)); exact rfl; exact rfl; exact rfl; exact rfl; exact rfl; exact rfl) | (apply Q_litDp TYok; (intro hp; apply EvR.cons Ev.auto; (repeat (first | exact EvR.nil | apply EvR.cons Ev.auto))); exact rfl; exact rfl; exact rfl; exact rfl; exact rfl; exact rfl) | exact QX.B TYok | exact QX.Len TYok | exact QX.Idx TYok | exact QX.Fun TYok | exact QCl (operands_ok 18) | exact QCd (h1) | exact QCd (h2)); exact rfl) | refine SX.Lit TYok (h := ?_) | refine SX.Box TYok (h := ?_) | refine SC ?_ | (apply S_isnil TYok; exact rfl; exact rfl; exact rfl; exact Ev.auto; intro bn hnil) | (apply RG.gT; exact rfl; exact rfl; (first | assumption | decide)) | (apply RG.gF; exact rfl; exact rfl; (first | assumption | decide | (rw [ne_eq, Bool.not_eq_true]; assumption) | (rw [ne_eq, Bool.not_eq_false]; assumption)); exact rfl) | (apply W.draw2 (id := 1) [0, 1, 3, 7, 15, 31, 7, 71, 199, 511, 1023] [[3], [6], [7], [2, 8], [9, 8], [10, 8], [2, 8], [12, 8], [13, 8], [11, 14, 8], [8, 15]] 11 [(6, 8), (7, 64), (8, 128), (9, 260), (10, 768), (11, 1280), (12, 260), (13, 4352), (14, 8448), (15, 18688), (16, 33024)] mixed (by kernel_rfl) rfl rfl) | (apply W.draw2 (id := 16) [0, 1, 3, 7, 15, 31, 63, 127, 255, 511, 1023, 2047, 4095, 8191, 16383, 32767, 65535, 131071, 262143, 32767, 557055, 2097151, 4194303, 8388607] [[2], [61], [62], [63], [2, 64], [65, 64], [66, 64], [64, 67], [68], [2, 69], [70, 69], [71, 69], [72, 69], [69, 73], [74], [2, 75], [76, 75], [77, 75], [78, 75], [3, 75], [80, 75], [79, 81, 75], [75, 82], [83]] 24 [(61, 4), (62, 2305843009213693952), (63, 4611686018427387904), (64, 9223372036854775808), (65, 18446744073709551620), (66, 55340232221128654848), (67, 92233720368547758080), (68, 166020696663385964544), (69, 295147905179352825856), (70, 590295810358705651716), (71, 1770887431076116955136), (72, 2951479051793528258560), (73, 5312662293228350865408), (74, 10035028776097996079104), (75, 18889465931478580854784), (76, 37778931862957161709572), (77, 113336795588871485128704), (78, 188894659314785808547840), (79, 340010386766614455386112), (80, 37778931862957161709576), (81, 1246704751477586336415744), (82, 3060093480899530098475008), (83, 4873482210321473860534272), (4, 9671406556917033397649408)] mixed (by kernel_rfl) rfl rfl) | (refine W.condA (ht := fun hb => ?_) (hf := fun hb => ?_) <;> (try simp at hb) <;> (try (exfalso; omega))))
  all_goals exact Fin.ret ResL.auto
theorem right18_a
    {d : Nat} {n u : Int} {s : Str} {l : List Exp} (hs : s.length ≤ 9223372036854775807) (hl : l.length ≤ 9223372036854775807) (hlen : (l.length : Int) = opsF 18)
    (hdc : (((d + 1 : Nat) : Int)) ≠ 0) (hdb : (d : Int) ≤ 100) (ih : ∀ x ∈ l, ACalls Try.prog 43 [aE x, cI (((d + 1 : Nat) : Int) - 1)] (.pv (cB (rightF d x)))) (cl : ∀ x ∈ l, ACalls Try.prog 61 [aE x, .one (.ptr [.int .i64 ((d + 1 : Nat) : Int)])] (.pv (cB (!rightF d x))))
    (hA : (decide (u = 0) && decide (s = E0)) = false) : ACalls Try.prog 43 [.agg [.int .i64 18, .int .i64 n, .int .i64 u, .str s, .sl (l.map encX)], cI ((d + 1 : Nat) : Int)] (.pv (cB false)) := by
  have := right18_all hs hl hlen hdc hdb ih (n := n) (u := u)
  rw [hA, Bool.false_and, Bool.false_and] at this
  exact this
theorem right18_b
    {d : Nat} {n u : Int} {s : Str} {l : List Exp} (hs : s.length ≤ 9223372036854775807) (hl : l.length ≤ 9223372036854775807) (hlen : (l.length : Int) = opsF 18)
    (hdc : (((d + 1 : Nat) : Int)) ≠ 0) (hdb : (d : Int) ≤ 100) (ih : ∀ x ∈ l, ACalls Try.prog 43 [aE x, cI (((d + 1 : Nat) : Int) - 1)] (.pv (cB (rightF d x)))) (cl : ∀ x ∈ l, ACalls Try.prog 61 [aE x, .one (.ptr [.int .i64 ((d + 1 : Nat) : Int)])] (.pv (cB (!rightF d x))))
    (hA : (decide (u = 0) && decide (s = E0)) = true) (hB : [n].all (inF 1 1000) = false) : ACalls Try.prog 43 [.agg [.int .i64 18, .int .i64 n, .int .i64 u, .str s, .sl (l.map encX)], cI ((d + 1 : Nat) : Int)] (.pv (cB false)) := by
  have := right18_all hs hl hlen hdc hdb ih (n := n) (u := u)
  rw [hA, hB, Bool.true_and, Bool.false_and] at this
  exact this
theorem right18_c
    {d : Nat} {n u : Int} {s : Str} {l : List Exp} (hs : s.length ≤ 9223372036854775807) (hl : l.length ≤ 9223372036854775807) (hlen : (l.length : Int) = opsF 18)
    (hdc : (((d + 1 : Nat) : Int)) ≠ 0) (hdb : (d : Int) ≤ 100) (ih : ∀ x ∈ l, ACalls Try.prog 43 [aE x, cI (((d + 1 : Nat) : Int) - 1)] (.pv (cB (rightF d x)))) (cl : ∀ x ∈ l, ACalls Try.prog 61 [aE x, .one (.ptr [.int .i64 ((d + 1 : Nat) : Int)])] (.pv (cB (!rightF d x))))
    (hl1 : 0 < l.length) (hA : (decide (u = 0) && decide (s = E0)) = true) (hB : [n].all (inF 1 1000) = true) : ACalls Try.prog 43 [.agg [.int .i64 18, .int .i64 n, .int .i64 u, .str s, .sl (l.map encX)], cI ((d + 1 : Nat) : Int)] (.pv (cB (decide (u = 0) && decide (s = E0) && [n].all (inF 1 1000) && rightF d (nth l 0)))) :=
  right18_all hs hl hlen hdc hdb ih
end Go.Proofs.Ytppdbmobcfedcaa
end
