/-
  Regions whose order is open: one lexical run serves every order that the edges allow.
-/
import Derived.Test.YtipghibmgfhmpaaGreatDoorLfRules
import Derived.Orders
set_option linter.unusedVariables false
set_option linter.unusedSimpArgs false
namespace Lf
open Go Go.RowKit

abbrev Env := List (Nat × (Prop × AV))

def only (ts : List Nat) : Env → Env
  | [] => []
  | (k, e) :: r => bif ts.any (Nat.beq k) then (k, e) :: only ts r else only ts r
theorem lk_only {ts : List Nat} : ∀ {env : Env} {t : Nat} {e : Prop × AV}, lk (only ts env) t = some e → t ∈ ts ∧ lk env t = some e
  | [], t, e, h => by simp [only, lk] at h
  | (k, x) :: r, t, e, h => by
    rw [only] at h
    cases hb : ts.any (Nat.beq k) with
    | true =>
      rw [hb, cond_true, lk_cons] at h
      split at h
      · rename_i hk; subst hk
        simp only [List.any_eq_true] at hb
        obtain ⟨y, hy, he⟩ := hb
        have := Nat.eq_of_beq_eq_true he
        subst this
        exact ⟨hy, by rw [lk_cons, if_pos rfl]; exact h⟩
      · rename_i hk
        obtain ⟨h1, h2⟩ := lk_only h
        exact ⟨h1, by rw [lk_cons, if_neg hk]; exact h2⟩
    | false =>
      rw [hb, cond_false] at h
      obtain ⟨h1, h2⟩ := lk_only h
      refine ⟨h1, ?_⟩
      have hk : k ≠ t := fun e => by
        subst e
        have : ts.any (Nat.beq k) = true := List.any_eq_true.2 ⟨k, h1, Nat.beq_refl k⟩
        rw [this] at hb; cases hb
      rw [lk_cons, if_neg hk]; exact h2

/-- The values that have come up, pushed in the text's order. -/
def eL (L : Nat → Bool) : Nat → Env → Env → Env
  | _, [], env => env
  | k, x :: r, env => eL L (k + 1) r (if L k then x :: env else env)

theorem eL_congr {L L' : Nat → Bool} {t : Nat} : ∀ (vals : Env) (k : Nat) (env env' : Env), lk env t = lk env' t → (∀ j x, vals[j]? = some x → x.1 = t → L (k + j) = L' (k + j)) → lk (eL L k vals env) t = lk (eL L' k vals env') t
  | [], k, env, env', h, _ => h
  | x :: r, k, env, env', h, hj => by
    rw [eL, eL]
    refine eL_congr r (k + 1) _ _ ?_ fun j y hy he => by have := hj (j + 1) y (by simpa using hy) he; rwa [show k + (j + 1) = k + 1 + j by omega] at this
    obtain ⟨t', e⟩ := x
    by_cases hx : t' = t
    · have := hj 0 (t', e) rfl hx
      simp only [Nat.add_zero] at this
      rw [this]
      split
      · rw [lk_cons, lk_cons, if_pos hx, if_pos hx]
      · exact h
    · split <;> split <;> simp [lk_cons, hx, h]

theorem eL_none : ∀ (vals : Env) (k : Nat) (env : Env), eL (fun _ => false) k vals env = env
  | [], _, _ => rfl
  | x :: r, k, env => by rw [eL]; exact eL_none r (k + 1) env
theorem eL_lt : ∀ (vals : Env) (k i : Nat) (env : Env) (x : Nat × (Prop × AV)), vals[i]? = some x → eL (fun j => decide (j < k + i + 1)) k vals env = x :: eL (fun j => decide (j < k + i)) k vals env
  | [], k, i, env, x, h => by simp at h
  | y :: r, k, 0, env, x, h => by
    simp at h; subst h
    have key : ∀ (r : Env) (k' : Nat) (env : Env), k < k' → eL (fun j => decide (j < k + 0 + 1)) k' r env = env := by
      intro r
      induction r with
      | nil => intro k' env _; rfl
      | cons z r ih => intro k' env hk; rw [eL, if_neg (by simp; omega)]; exact ih _ _ (by omega)
    have key' : ∀ (r : Env) (k' : Nat) (env : Env), k < k' → eL (fun j => decide (j < k + 0)) k' r env = env := by
      intro r
      induction r with
      | nil => intro k' env _; rfl
      | cons z r ih => intro k' env hk; rw [eL, if_neg (by simp; omega)]; exact ih _ _ (by omega)
    rw [eL, eL, key r (k + 1) _ (by omega), key' r (k + 1) _ (by omega), if_pos (by simp), if_neg (by simp)]
  | y :: r, k, i + 1, env, x, h => by
    rw [eL, eL, if_pos (by simp; omega), if_pos (by simp)]
    have := eL_lt r (k + 1) i (y :: env) x (by simpa using h)
    rw [show k + 1 + i + 1 = k + (i + 1) + 1 by omega, show k + 1 + i = k + (i + 1) by omega] at this
    exact this

/-! ### What is asked of the order -/
def deps (o : Oper) : List Nat := o.after.toList.filterMap fun e => if Region.binds .any e then some e.on else none
def looks (ops : Array Oper) (o : Oper) : List Nat := o.looksAt ops
def clash (ops : Array Oper) (x y : Oper) : Bool :=
  (match x.dst with | some d => (looks ops y).any (Nat.beq d) | none => false) || (match y.dst with | some d => (looks ops x).any (Nat.beq d) || (match x.dst with | some d' => Nat.beq d d' | none => false) | none => false)
/-- no operation writes slot t -/
def unwr (l : List Oper) (t : Nat) : Bool := l.all fun x => match x.dst with | some d => !Nat.beq d t | none => true
theorem unwr_at {l : List Oper} {t : Nat} (h : unwr l t = true) {j : Nat} {o : Oper} (hj : l[j]? = some o) : o.dst ≠ some t := fun e => by
  have := List.all_eq_true.1 h o (List.mem_of_getElem? hj)
  rw [e] at this
  simp at this
def orderOk (l : List Oper) (ms : List Nat) (tss : List (List Nat)) (m : Nat) : Bool :=
  (List.range l.length).all fun y =>
    let o := l.getD y default
    let my := ms.getD y 0
    (deps o).all (fun j => Nat.blt j y) &&
    Nat.beq my ((deps o).foldl (fun s j => s ||| 2 ^ j ||| ms.getD j 0) 0) &&
    (bif Nat.blt y m then
      o.dst.isSome && (tss.getD y []).all (fun t => (looks l.toArray o).any (Nat.beq t) || unwr l t) && (List.range y).all (fun x => !clash l.toArray (l.getD x default) o || my.testBit x)
     else (List.range y).all fun x => my.testBit x)

/-! the same test, quickly: each operation's slot and what it looks at are given as numbers -/
def clash2 (a b : Nat × Nat) : Bool := b.2.testBit a.1 || a.2.testBit b.1 || Nat.beq a.1 b.1
def sigOk (ops : Array Oper) (o : Oper) (s : Nat × Nat) : Bool := (match o.dst with | some d => Nat.beq d s.1 | none => false) && (looks ops o).all fun t => s.2.testBit t
def pairsOk (s : Nat × Nat) (my : Nat) : Nat → List (Nat × Nat) → Bool
  | _, [] => true
  | x, a :: r => (!clash2 a s || my.testBit x) && pairsOk s my (x + 1) r
def orderOk2 (l : List Oper) (ms : List Nat) (tss : List (List Nat)) (m : Nat) (sg : List (Nat × Nat)) : Bool :=
  (List.range l.length).all fun y =>
    let o := l.getD y default
    let my := ms.getD y 0
    (deps o).all (fun j => Nat.blt j y) &&
    Nat.beq my ((deps o).foldl (fun s j => s ||| 2 ^ j ||| ms.getD j 0) 0) &&
    (bif Nat.blt y m then
      sigOk l.toArray o (sg.getD y (0, 0)) && (tss.getD y []).all (fun t => (looks l.toArray o).any (Nat.beq t) || unwr l t) && pairsOk (sg.getD y (0, 0)) my 0 (sg.take y)
     else (List.range y).all fun x => my.testBit x)
theorem pairsOk_at {s : Nat × Nat} {my : Nat} : ∀ {l : List (Nat × Nat)} {k x : Nat} {a : Nat × Nat}, pairsOk s my k l = true → l[x]? = some a → clash2 a s = true → my.testBit (k + x) = true
  | [], k, x, a, _, hx, _ => by simp at hx
  | b :: r, k, 0, a, h, hx, hc => by
    simp at hx; subst hx
    rw [pairsOk, hc] at h
    simp at h
    simpa using h.1
  | b :: r, k, x + 1, a, h, hx, hc => by
    rw [pairsOk, Bool.and_eq_true] at h
    have := pairsOk_at h.2 (by simpa using hx) hc
    rwa [show k + 1 + x = k + (x + 1) by omega] at this
theorem clash_of {ops : Array Oper} {x y : Oper} {a b : Nat × Nat} (hx : sigOk ops x a = true) (hy : sigOk ops y b = true) (hc : clash ops x y = true) : clash2 a b = true := by
  unfold sigOk at hx hy
  rw [Bool.and_eq_true] at hx hy
  obtain ⟨hx1, hx2⟩ := hx
  obtain ⟨hy1, hy2⟩ := hy
  cases hdx : x.dst with
  | none => rw [hdx] at hx1; cases hx1
  | some d =>
    cases hdy : y.dst with
    | none => rw [hdy] at hy1; cases hy1
    | some e =>
      rw [hdx] at hx1
      rw [hdy] at hy1
      have ea := Nat.eq_of_beq_eq_true hx1
      have eb := Nat.eq_of_beq_eq_true hy1
      unfold clash at hc
      rw [hdx, hdy] at hc
      simp only [Bool.or_eq_true] at hc
      unfold clash2
      simp only [Bool.or_eq_true]
      rcases hc with h | h | h
      · obtain ⟨t, ht, he⟩ := List.any_eq_true.1 h
        have := Nat.eq_of_beq_eq_true he
        exact .inl (.inl (by rw [← ea, this]; exact List.all_eq_true.1 hy2 t ht))
      · obtain ⟨t, ht, he⟩ := List.any_eq_true.1 h
        have := Nat.eq_of_beq_eq_true he
        exact .inl (.inr (by rw [← eb, this]; exact List.all_eq_true.1 hx2 t ht))
      · have := Nat.eq_of_beq_eq_true h
        exact .inr (by rw [← ea, ← eb, this]; exact Nat.beq_refl _)
theorem orderOk_of2 {l : List Oper} {ms : List Nat} {tss : List (List Nat)} {m : Nat} {sg : List (Nat × Nat)} (hsg : sg.length = m) (h : orderOk2 l ms tss m sg = true) : orderOk l ms tss m = true := by
  refine List.all_eq_true.2 fun y hy => ?_
  have h0 := List.all_eq_true.1 h y hy
  simp only [Bool.and_eq_true] at h0 ⊢
  refine ⟨h0.1, ?_⟩
  have h1 := h0.2
  cases hb : Nat.blt y m with
  | false => rw [hb] at h1; exact h1
  | true =>
    rw [hb, cond_true] at h1
    rw [cond_true]
    simp only [Bool.and_eq_true] at h1 ⊢
    obtain ⟨⟨h2, h3⟩, h4⟩ := h1
    refine ⟨⟨?_, h3⟩, List.all_eq_true.2 fun x hx => ?_⟩
    · unfold sigOk at h2
      cases hd : (l.getD y default).dst with
      | none => rw [hd] at h2; simp at h2
      | some d => rfl
    · have hxy := List.mem_range.1 hx
      have hym := blt_lt hb
      have hxr : x ∈ List.range l.length := List.mem_range.2 (by have := List.mem_range.1 hy; omega)
      have g0 := List.all_eq_true.1 h x hxr
      have hbx : Nat.blt x m = true := by simp [Nat.blt_eq]; omega
      simp only [hbx, cond_true, Bool.and_eq_true] at g0
      have g2 := g0.2.1.1
      cases hc : clash l.toArray (l.getD x default) (l.getD y default) with
      | false => simp
      | true =>
        have := clash_of g2 h2 hc
        have hgx : (sg.take y)[x]? = some (sg.getD x (0, 0)) := by
          rw [List.getElem?_take, if_pos hxy]
          simp [List.getD, List.getElem?_eq_getElem (show x < sg.length by omega)]
        have := pairsOk_at h4 hgx this
        simp only [Nat.zero_add] at this
        simp only [Bool.not_true, Bool.false_or]
        exact this

theorem fold_bit (ms : List Nat) : ∀ (ds : List Nat) (s j : Nat), (ds.foldl (fun s j => s ||| 2 ^ j ||| ms.getD j 0) s).testBit j = true → s.testBit j = true ∨ ∃ d ∈ ds, j = d ∨ (ms.getD d 0).testBit j = true
  | [], s, j, h => .inl h
  | d :: ds, s, j, h => by
    rw [List.foldl_cons] at h
    rcases fold_bit ms ds _ j h with h | ⟨d', h1, h2⟩
    · simp only [Nat.testBit_or, Bool.or_eq_true, Nat.testBit_two_pow, decide_eq_true_eq] at h
      rcases h with (h | h) | h
      · exact .inl h
      · exact .inr ⟨d, by simp, .inl h.symm⟩
      · exact .inr ⟨d, by simp, .inr h⟩
    · exact .inr ⟨d', List.mem_cons_of_mem _ h1, h2⟩

section
variable {l : List Oper} {ms : List Nat} {tss : List (List Nat)} {m : Nat}

theorem orderOk_at (h : orderOk l ms tss m = true) {y : Nat} {o : Oper} (hy : l[y]? = some o) :
    (∀ j ∈ deps o, j < y) ∧ (∀ j, (ms.getD y 0).testBit j = true → ∃ d ∈ deps o, j = d ∨ (ms.getD d 0).testBit j = true) ∧
    (y < m → (∃ d, o.dst = some d) ∧ (∀ t ∈ tss.getD y [], t ∈ looks l.toArray o ∨ ∀ (j : Nat) (ox : Oper), l[j]? = some ox → ox.dst ≠ some t) ∧ ∀ x ox, x < y → l[x]? = some ox → clash l.toArray ox o = true → (ms.getD y 0).testBit x = true) ∧
    (m ≤ y → ∀ x, x < y → (ms.getD y 0).testBit x = true) := by
  have hlt := (List.getElem?_eq_some_iff.1 hy).1
  have h0 := List.all_eq_true.1 h y (List.mem_range.2 hlt)
  have hg : l.getD y default = o := by simp [List.getD, hy]
  simp only [hg, Bool.and_eq_true] at h0
  obtain ⟨⟨h1, h2⟩, h3⟩ := h0
  refine ⟨fun j hj => blt_lt (List.all_eq_true.1 h1 j hj), fun j hj => ?_, fun hm => ?_, fun hm x hx => ?_⟩
  · rw [Nat.eq_of_beq_eq_true h2] at hj
    rcases fold_bit ms _ _ _ hj with h | h
    · simp at h
    · exact h
  · have hb : Nat.blt y m = true := by simpa [Nat.blt_eq] using hm
    rw [hb, cond_true] at h3
    simp only [Bool.and_eq_true] at h3
    refine ⟨Option.isSome_iff_exists.1 h3.1.1, fun t ht => ?_, fun x ox hx hox hc => ?_⟩
    · have h5 := List.all_eq_true.1 h3.1.2 t ht
      rw [Bool.or_eq_true] at h5
      rcases h5 with h5 | h5
      · obtain ⟨z, hz, he⟩ := List.any_eq_true.1 h5
        exact .inl (by rw [Nat.eq_of_beq_eq_true he]; exact hz)
      · exact .inr fun j ox hj => unwr_at h5 hj
    · have := List.all_eq_true.1 h3.2 x (List.mem_range.2 hx)
      have hgx : l.getD x default = ox := by simp [List.getD, hox]
      rw [hgx, hc] at this
      simpa using this
  · have hb : Nat.blt y m = false := by
      cases hb : Nat.blt y m with
      | false => rfl
      | true => have := blt_lt hb; omega
    rw [hb, cond_false] at h3
    exact List.all_eq_true.1 h3 x (List.mem_range.2 hx)

/-- What is listed goes down along the edges. -/
def Closed (l : List Oper) (L : Nat → Bool) : Prop := ∀ y o, l[y]? = some o → L y = true → ∀ j ∈ deps o, L j = true

theorem closed_anc (h : orderOk l ms tss m = true) {L : Nat → Bool} (hc : Closed l L) : ∀ (y : Nat) (o : Oper), l[y]? = some o → (∀ j ∈ deps o, L j = true) → ∀ x, (ms.getD y 0).testBit x = true → L x = true := by
  intro y
  induction y using Nat.strongRecOn with
  | _ y ih =>
    intro o hy hd x hx
    obtain ⟨h1, h2, _⟩ := orderOk_at h hy
    obtain ⟨d, hd1, hd2⟩ := h2 x hx
    rcases hd2 with rfl | hd2
    · exact hd _ hd1
    · have hlt := h1 d hd1
      have hyl := (List.getElem?_eq_some_iff.1 hy).1
      have hdl : l[d]? = some (l[d]'(by omega)) := List.getElem?_eq_getElem _
      exact ih d hlt _ hdl (hc d _ hdl (hd d hd1)) x hd2
end

theorem Sat.env_congr {G : Ghost} {Φ : Frz} {β : Own} {n : Nat} {env env' : Env} {bl : List (Nat × Blk)} {a : Act} {w : World} (h : Sat G Φ β (St.mk n env bl) a w) (he : ∀ t e, lk env' t = some e → lk env t = some e) : Sat G Φ β (St.mk n env' bl) a w :=
  ⟨h.kept, h.fits, h.old, h.siz, h.dfr, fun t q v hl => h.env t q v (he t _ hl), h.blk, h.vir, h.inj⟩

section
variable {P : Program} {G : Ghost} {ops : Array Oper} {n : Nat} {bl : List (Nat × Blk)}

/-- THE LEXICAL RUN: each operation by what it looks at. -/
def Lex (P : Program) (G : Ghost) (ops : Array Oper) (n : Nat) (bl : List (Nat × Blk)) : List Oper → List (List Nat) → Env → (Env → Prop) → Prop
  | [], _, env, K => K env
  | o :: rest, tss, env, K => ∃ d p v, o.dst = some d ∧ d < n ∧ GOk (St.mk n (only (tss.headD []) env) bl) ops o p ∧ PureOp P G (St.mk n (only (tss.headD []) env) bl) o p v ∧ Lex P G ops n bl rest tss.tail ((d, (p, v)) :: env) K

theorem Lex.vals : ∀ {l : List Oper} {tss : List (List Nat)} {env : Env} {K : Env → Prop}, Lex P G ops n bl l tss env K →
    ∃ vals : Env, vals.length = l.length ∧ K (eL (fun _ => true) 0 vals env) ∧ ∀ i o, l[i]? = some o → ∃ d p v, vals[i]? = some (d, (p, v)) ∧ o.dst = some d ∧ d < n ∧
      GOk (St.mk n (only (tss.getD i []) (eL (fun j => decide (j < i)) 0 vals env)) bl) ops o p ∧ PureOp P G (St.mk n (only (tss.getD i []) (eL (fun j => decide (j < i)) 0 vals env)) bl) o p v
  | [], tss, env, K, h => ⟨[], rfl, h, fun i o hi => by simp at hi⟩
  | o :: rest, tss, env, K, ⟨d, p, v, h1, h2, h3, h4, h5⟩ => by
    obtain ⟨vals, g1, g2, g3⟩ := Lex.vals h5
    have shift : ∀ (L : Nat → Bool) (vals : Env) (k : Nat) (env : Env), eL L (k + 1) vals env = eL (fun j => L (j + 1)) k vals env := by
      intro L vals
      induction vals with
      | nil => intro k env; rfl
      | cons x r ih => intro k env; rw [eL, eL, ih]
    refine ⟨(d, (p, v)) :: vals, by simp [g1], ?_, fun i o' hi => ?_⟩
    · rw [eL, if_pos rfl, shift]; exact g2
    · cases i with
      | zero =>
        simp at hi; subst hi
        have hz : eL (fun j => decide (j < 0)) 0 ((d, (p, v)) :: vals) env = env := by
          have : (fun j => decide (j < 0)) = fun _ : Nat => false := by funext j; simp
          rw [this, eL_none]
        have ht : tss.getD 0 [] = tss.headD [] := by cases tss <;> rfl
        rw [hz, ht]
        exact ⟨d, p, v, rfl, h1, h2, h3, h4⟩
      | succ i =>
        obtain ⟨d', p', v', k1, k2, k3, k4, k5⟩ := g3 i o' (by simpa using hi)
        have hz : eL (fun j => decide (j < i + 1)) 0 ((d, (p, v)) :: vals) env = eL (fun j => decide (j < i)) 0 vals ((d, (p, v)) :: env) := by
          rw [eL, if_pos (by simp), shift]
          congr 1
          funext j; simp
        have ht : tss.getD (i + 1) [] = tss.tail.getD i [] := by cases tss <;> simp
        rw [hz, ht]
        exact ⟨d', p', v', by simpa using k1, k2, k3, k4, k5⟩

theorem mem_ready' {l : List Oper} {L : Array Bool} {i : Nat} (h : i ∈ Region.ready .any l.toArray L) : ∃ o, l[i]? = some o ∧ L.getD i true = false ∧ ∀ j ∈ deps o, L.getD j false = true := by
  obtain ⟨h1, o, h2, h3⟩ := mem_ready.1 h
  refine ⟨o, by simpa using h2, h1, fun j hj => ?_⟩
  simp only [deps, List.mem_filterMap] at hj
  obtain ⟨e, he, hb⟩ := hj
  split at hb
  · rename_i hbind
    obtain rfl := Option.some.inj hb
    exact h3 e (by simpa using he) hbind
  · cases hb

theorem ready_mk {l : List Oper} {L : Array Bool} {i : Nat} {o : Oper} (ho : l[i]? = some o) (hu : L.getD i true = false) (hd : ∀ j ∈ deps o, L.getD j false = true) : i ∈ Region.ready .any l.toArray L :=
  mem_ready.2 ⟨hu, o, by simpa using ho, fun e he hb => hd e.on (by simp only [deps, List.mem_filterMap]; exact ⟨e, by simpa using he, by simp [hb]⟩)⟩

/-- The end of the region in the text's order, where it is forced. -/
theorem forced {l : List Oper} {ms : List Nat} {tss : List (List Nat)} {m : Nat} (hok : orderOk l ms tss m = true) {Q' : Exit → Act → World → Prop} :
    ∀ (fuel k : Nat) (L : Array Bool) (a : Act) (w : World), fuel = l.length - k → m ≤ k → k ≤ l.length → L.size = l.length → (∀ j, j < l.length → L.getD j true = decide (j < k)) →
      wpList P l.toArray Q' (l.drop k) a w → wpAny P .any l.toArray Q' fuel L a w := by
  intro fuel
  induction fuel with
  | zero =>
    intro k L a w hf hm hk hs hL h
    have hkl : k = l.length := by omega
    have hdrop : l.drop k = [] := List.drop_eq_nil_of_le (by omega)
    rw [hdrop] at h
    refine ⟨?_, h⟩
    refine List.eq_nil_iff_forall_not_mem.2 fun i hi => ?_
    obtain ⟨o, h1, h2, _⟩ := mem_ready' hi
    have hil := (List.getElem?_eq_some_iff.1 h1).1
    rw [hL i hil] at h2
    simp at h2; omega
  | succ fuel ih =>
    intro k L a w hf hm hk hs hL h
    have hkl : k < l.length := by omega
    have hLf : ∀ j, j < l.length → L.getD j false = decide (j < k) := fun j hj => by
      have := hL j hj
      rw [Array.getD_eq_getD_getElem?] at this ⊢
      rw [Array.getElem?_eq_getElem (by omega)] at this ⊢
      exact this
    have hcl : Closed l (fun j => L.getD j false) := fun y o hy hL' j hj => by
      have hyl := (List.getElem?_eq_some_iff.1 hy).1
      have hjy := (orderOk_at hok hy).1 j hj
      have hL' : L.getD y false = true := hL'
      rw [hLf y hyl] at hL'
      show L.getD j false = true
      rw [hLf j (by omega)]
      simp at hL' ⊢; omega
    refine ⟨fun hr => ?_, fun i hi => ?_⟩
    · exfalso
      have hmem : k ∈ Region.ready .any l.toArray L := ready_mk (o := l[k]) (List.getElem?_eq_getElem _) (by rw [hL k hkl]; simp) (fun j hj => by
        have := (orderOk_at hok (List.getElem?_eq_getElem hkl)).1 j hj
        rw [hLf j (by omega)]; simpa using this)
      rw [hr] at hmem; cases hmem
    · obtain ⟨o, h1, h2, h3⟩ := mem_ready' hi
      have hil := (List.getElem?_eq_some_iff.1 h1).1
      have hik : i = k := by
        rcases Nat.lt_trichotomy i k with hlt | heq | hgt
        · rw [hL i hil] at h2; simp at h2; omega
        · exact heq
        · exfalso
          have hanc := (orderOk_at hok h1).2.2.2 (by omega) k hgt
          have := closed_anc hok hcl i o h1 h3 k hanc
          have this : L.getD k false = true := this
          rw [hLf k hkl] at this
          simp at this
      subst hik
      rw [List.drop_eq_getElem_cons hkl] at h
      have ho : l[i] = o := by rw [List.getElem?_eq_getElem hil] at h1; exact Option.some.inj h1
      rw [ho] at h
      unfold wpOp
      have hio : l.toArray[i]? = some o := by simpa using h1
      simp only [hio]
      have next : ∀ a' w', wpList P l.toArray Q' (l.drop (i + 1)) a' w' → wpAny P .any l.toArray Q' fuel (L.setIfInBounds i true) a' w' := fun a' w' hn =>
        ih (i + 1) _ a' w' (by omega) (by omega) (by omega) (by simpa using hs) (fun j hj => by
          by_cases e : j = i
          · subst e
            rw [Array.getD_eq_getD_getElem?, Array.getElem?_setIfInBounds_self_of_lt (by omega)]
            simp
          · rw [getD_set_ne true (Ne.symm e), hL j hj]
            simp only [decide_eq_decide]; omega) hn
      unfold wpList at h
      split
      · rename_i hw
        rw [if_pos hw] at h
        exact h.imp (Oper.wp_mono next) id
      · rename_i hw
        rw [if_neg hw] at h
        exact next _ _ h

def un (L : Nat → Bool) : Nat → Nat
  | 0 => 0
  | n + 1 => (if L n then 0 else 1) + un L n
theorem un_congr {L L' : Nat → Bool} : ∀ n, (∀ j, j < n → L j = L' j) → un L n = un L' n
  | 0, _ => rfl
  | n + 1, h => by rw [un, un, h n (by omega), un_congr n (fun j hj => h j (by omega))]
theorem un_set {L L' : Nat → Bool} {i : Nat} (hi : L i = false) (hi' : L' i = true) (ho : ∀ j, j ≠ i → L' j = L j) : ∀ n, i < n → un L n = un L' n + 1
  | 0, h => by omega
  | n + 1, h => by
    rw [un, un]
    by_cases e : i = n
    · subst e
      rw [hi, hi', un_congr (L := L') (L' := L) i (fun j hj => ho j (by omega))]
      simp; omega
    · rw [ho n (Ne.symm e), un_set hi hi' ho n (by omega)]
      omega
theorem un_zero {L : Nat → Bool} : ∀ n, un L n = 0 → ∀ i, i < n → L i = true
  | 0, _, i, hi => by omega
  | n + 1, h, i, hi => by
    rw [un] at h
    by_cases e : i = n
    · subst e
      cases hL : L i with
      | true => rfl
      | false => rw [hL] at h; simp at h
    · exact un_zero n (by omega) i (by omega)
theorem un_lt {m : Nat} : ∀ n, m ≤ n → un (fun j => decide (j < m)) n = n - m
  | 0, h => by simp [un]
  | n + 1, h => by
    rw [un]
    by_cases e : m = n + 1
    · subst e
      have : ∀ k, k ≤ n + 1 → un (fun j => decide (j < n + 1)) k = 0 := by
        intro k
        induction k with
        | zero => intro _; rfl
        | succ k ih => intro hk; rw [un, ih (by omega)]; simp; omega
      rw [this n (by omega)]; simp
    · rw [un_lt n (by omega)]
      have : ¬ n < m := by omega
      simp [this]; omega

theorem lexAny {l : List Oper} {ms : List Nat} {tss : List (List Nat)} {m : Nat} (hok : orderOk l ms tss m = true) (hml : m ≤ l.length) {vals env : Env} {Φ0 : Frz} {Qs : St → Prop} {Q' : Exit → Act → World → Prop} (hvl : vals.length = m)
    (hv : ∀ i o, i < m → l[i]? = some o → ∃ d p v, vals[i]? = some (d, (p, v)) ∧ o.dst = some d ∧ d < n ∧ GOk (St.mk n (only (tss.getD i []) (eL (fun j => decide (j < i)) 0 vals env)) bl) l.toArray o p ∧ PureOp P G (St.mk n (only (tss.getD i []) (eL (fun j => decide (j < i)) 0 vals env)) bl) o p v)
    (hK : RG P G l.toArray (l.drop m) Qs (St.mk n (eL (fun _ => true) 0 vals env) bl))
    (hq : ∀ A' Φ' β' a' w', Qs A' → Sat G Φ' β' A' a' w' → Φ0.le Φ' → Q' .normal a' w') :
    ∀ (fuel : Nat) (L : Array Bool) (Φ : Frz) (β : Own) (a : Act) (w : World), fuel = un (fun j => L.getD j true) l.length → L.size = l.length → Closed l (fun j => L.getD j false) → (∀ j, m ≤ j → j < l.length → L.getD j true = false) → Φ0.le Φ →
      Sat G Φ β (St.mk n (eL (fun j => L.getD j false) 0 vals env) bl) a w → wpAny P .any l.toArray Q' fuel L a w := by
  intro fuel
  induction fuel with
  | zero =>
    intro L Φ β a w hf hs hcl htl hle hsat
    have hall := un_zero _ hf.symm
    have hm : m = l.length := by
      rcases Nat.lt_or_ge m l.length with h | h
      · have h' : L.getD m true = true := hall m h
        rw [htl m (Nat.le_refl _) h] at h'; cases h'
      · omega
    refine forced hok 0 m L a w (by omega) (Nat.le_refl _) hml hs (fun j hj => by have h' : L.getD j true = true := hall j hj; rw [h']; simp; omega) ?_
    refine hK Φ β a w (hsat.env_congr fun t e h => ?_) Q' fun A' Φ' β' a' w' q s le => hq A' Φ' β' a' w' q s (Frz.le_trans hle le)
    rw [← h]
    refine eL_congr vals 0 env env rfl fun j x hj hx => ?_
    have hjl : j < l.length := by have := (List.getElem?_eq_some_iff.1 hj).1; omega
    have := hall j hjl
    simp only [Nat.zero_add] at this ⊢
    rw [Array.getD_eq_getD_getElem?, Array.getElem?_eq_getElem (by omega)] at this ⊢
    exact this
  | succ fuel ih =>
    intro L Φ β a w hf hs hcl htl hle hsat
    have hLf : ∀ j, j < l.length → L.getD j false = L.getD j true := fun j hj => by
      rw [Array.getD_eq_getD_getElem?, Array.getD_eq_getD_getElem?, Array.getElem?_eq_getElem (by omega)]; rfl
    by_cases hpre : ∀ j, j < m → L.getD j true = true
    · refine forced hok (fuel + 1) m L a w ?_ (Nat.le_refl _) hml hs (fun j hj => ?_) ?_
      · rw [hf, un_congr (L' := fun j => decide (j < m)) _ (fun j hj => ?_), un_lt _ hml]
        by_cases e : j < m
        · rw [hpre j e]; simp [e]
        · rw [htl j (by omega) hj]; simp [e]
      · by_cases e : j < m
        · rw [hpre j e]; simp [e]
        · rw [htl j (by omega) hj]; simp [e]
      · refine hK Φ β a w (hsat.env_congr fun t e h => ?_) Q' fun A' Φ' β' a' w' q s le => hq A' Φ' β' a' w' q s (Frz.le_trans hle le)
        rw [← h]
        refine eL_congr vals 0 env env rfl fun j x hj hx => ?_
        have hjm : j < m := by have := (List.getElem?_eq_some_iff.1 hj).1; omega
        simp only [Nat.zero_add]
        rw [hLf j (by omega), hpre j hjm]
    · -- some early operation is not listed yet; the first of them
      have hex : ∃ y, y < m ∧ L.getD y true = false ∧ ∀ j, j < y → L.getD j true = true := by
        have : ∃ j, j < m ∧ L.getD j true = false := by
          refine Classical.byContradiction fun hno => hpre fun j hj => ?_
          cases hb : L.getD j true with
          | true => rfl
          | false => exact absurd ⟨j, hj, hb⟩ hno
        obtain ⟨j0, hj0, hb0⟩ := this
        have key : ∀ k, k ≤ m → (∀ j, j < k → L.getD j true = true) ∨ ∃ y, y < m ∧ L.getD y true = false ∧ ∀ j, j < y → L.getD j true = true := by
          intro k
          induction k with
          | zero => intro _; exact .inl fun j hj => by omega
          | succ k ihk =>
            intro hk
            rcases ihk (by omega) with h | h
            · cases hb : L.getD k true with
              | true =>
                refine .inl fun j hj => ?_
                by_cases e : j = k
                · rw [e]; exact hb
                · exact h j (by omega)
              | false => exact .inr ⟨k, by omega, hb, h⟩
            · exact .inr h
        rcases key m (Nat.le_refl _) with h | h
        · have := h j0 hj0; rw [hb0] at this; cases this
        · exact h
      obtain ⟨y, hym, hyu, hyl⟩ := hex
      have hylen : y < l.length := by omega
      refine ⟨fun hr => ?_, fun i hi => ?_⟩
      · exfalso
        have hmem : y ∈ Region.ready .any l.toArray L := ready_mk (o := l[y]) (List.getElem?_eq_getElem _) hyu (fun j hj => by
          have := (orderOk_at hok (List.getElem?_eq_getElem hylen)).1 j hj
          rw [hLf j (by omega)]; exact hyl j this)
        rw [hr] at hmem; cases hmem
      · obtain ⟨o, h1, h2, h3⟩ := mem_ready' hi
        have hil := (List.getElem?_eq_some_iff.1 h1).1
        have him : i < m := by
          rcases Nat.lt_or_ge i m with h | h
          · exact h
          · exfalso
            have hanc := (orderOk_at hok h1).2.2.2 h y (by omega)
            have := closed_anc hok hcl i o h1 h3 y hanc
            have this : L.getD y false = true := this
            rw [hLf y hylen, hyu] at this; cases this
        obtain ⟨d, p, v, g1, g2, g3, g4, g5⟩ := hv i o him h1
        obtain ⟨_, hlooks, hord⟩ := (orderOk_at hok h1).2.2.1 him
        have hLi : L.getD i false = false := by rw [hLf i hil]; exact h2
        -- who writes what this operation looks at, or writes
        have before : ∀ j x, vals[j]? = some x → (x.1 ∈ looks l.toArray o ∨ x.1 = d) → j ≠ i → L.getD j false = decide (j < i) := fun j x hj hx hne => by
          have hjm : j < m := by have := (List.getElem?_eq_some_iff.1 hj).1; omega
          have hjl : j < l.length := by omega
          have hoj : l[j]? = some l[j] := List.getElem?_eq_getElem _
          obtain ⟨dj, pj, vj, q1, q2, _⟩ := hv j l[j] hjm hoj
          rw [hj] at q1
          obtain rfl := Option.some.inj q1
          simp only at hx
          rcases Nat.lt_or_ge j i with hlt | hge
          · have hc : clash l.toArray l[j] o = true := by
              unfold clash
              rw [q2, g2]
              rcases hx with hx | hx
              · have : (looks l.toArray o).any (Nat.beq dj) = true := List.any_eq_true.2 ⟨dj, hx, Nat.beq_refl _⟩
                simp [this]
              · subst hx; simp
            have := closed_anc hok hcl i o h1 h3 j (hord j _ hlt hoj hc)
            have this : L.getD j false = true := this
            rw [this]; simp [hlt]
          · have hgt : i < j := by omega
            have hc : clash l.toArray o l[j] = true := by
              unfold clash
              rw [q2, g2]
              rcases hx with hx | hx
              · have : (looks l.toArray o).any (Nat.beq dj) = true := List.any_eq_true.2 ⟨dj, hx, Nat.beq_refl _⟩
                simp [this]
              · subst hx; simp
            cases hb : L.getD j false with
            | false => simp; omega
            | true =>
              exfalso
              have hordj := ((orderOk_at hok hoj).2.2.1 hjm).2.2 i o hgt h1 hc
              have := closed_anc hok hcl j _ hoj (hcl j _ hoj hb) i hordj
              have this : L.getD i false = true := this
              rw [hLi] at this; cases this
        have hsub : Sat G Φ β (St.mk n (only (tss.getD i []) (eL (fun j => decide (j < i)) 0 vals env)) bl) a w := hsat.env_congr fun t e h => by
          obtain ⟨ht, he⟩ := lk_only h
          rw [← he]
          refine eL_congr vals 0 env env rfl fun j x hj hx => ?_
          simp only [Nat.zero_add]
          by_cases hji : j = i
          · subst hji; rw [hLi]; simp
          · rcases hlooks t ht with hl1 | hl2
            · exact before j x hj (.inl (by rw [hx]; exact hl1)) hji
            · exfalso
              have hjm : j < m := by have := (List.getElem?_eq_some_iff.1 hj).1; omega
              have hoj : l[j]? = some (l[j]'(by omega)) := List.getElem?_eq_getElem _
              obtain ⟨dj, pj, vj, q1, q2, _⟩ := hv j _ hjm hoj
              rw [hj] at q1
              obtain rfl := Option.some.inj q1
              exact hl2 j _ hoj (by rw [q2]; simp only at hx; rw [hx])
        have hw := g4 G Φ β a w hsub
        have next : ∀ (Φ' : Frz) (u : Value) (w' : World), Φ.le Φ' → Sat G Φ' β (St.mk n ((d, (p, v)) :: eL (fun j => L.getD j false) 0 vals env) bl) (a.put (some d) u) w' → wpAny P .any l.toArray Q' fuel (L.setIfInBounds i true) (a.put (some d) u) w' := fun Φ' u w' hle' hsat' => by
          have hne : ∀ j, j ≠ i → ∀ b, (L.setIfInBounds i true).getD j b = L.getD j b := fun j hj b => getD_set_ne b (Ne.symm hj)
          have heq : ∀ b, (L.setIfInBounds i true).getD i b = true := fun b => by rw [Array.getD_eq_getD_getElem?, Array.getElem?_setIfInBounds_self_of_lt (by omega)]; rfl
          refine ih _ Φ' β _ w' ?_ (by simpa using hs) (fun y' o' hy' hL' j hj => ?_) (fun j hmj hjl => by rw [hne j (by omega)]; exact htl j hmj hjl) (Frz.le_trans hle hle') (hsat'.env_congr fun t e h => ?_)
          · have := un_set (L := fun j => L.getD j true) (L' := fun j => (L.setIfInBounds i true).getD j true) (i := i) h2 (heq true) (fun j hj => hne j hj true) l.length hil
            omega
          · by_cases e1 : j = i
            · subst e1; exact heq false
            · show (L.setIfInBounds i true).getD j false = true
              rw [hne j e1]
              by_cases e2 : y' = i
              · subst e2
                rw [h1] at hy'
                obtain rfl := Option.some.inj hy'
                exact h3 j hj
              · have hL'' : L.getD y' false = true := by rw [← hne y' e2 false]; exact hL'
                exact hcl y' o' hy' hL'' j hj
          · by_cases e1 : t = d
            · subst e1
              have hl1 : lk (eL (fun j => (L.setIfInBounds i true).getD j false) 0 vals env) t = lk (eL (fun j => decide (j < 0 + i + 1)) 0 vals env) t := eL_congr vals 0 env env rfl fun j x hj hx => by
                simp only [Nat.zero_add]
                by_cases hji : j = i
                · subst hji; rw [heq]; simp
                · rw [hne j hji, before j x hj (.inr hx) hji]
                  simp only [decide_eq_decide]; omega
              rw [hl1, eL_lt vals 0 i env _ g1, lk_cons, if_pos rfl] at h
              rw [lk_cons, if_pos rfl]; exact h
            · rw [lk_cons, if_neg (Ne.symm e1), ← h]
              refine eL_congr vals 0 env env rfl fun j x hj hx => ?_
              simp only [Nat.zero_add]
              by_cases hji : j = i
              · subst hji
                rw [hj] at g1
                obtain rfl := Option.some.inj g1
                exact absurd hx.symm e1
              · rw [hne j hji]
        unfold wpOp
        have hio : l.toArray[i]? = some o := by simpa using h1
        simp only [hio]
        by_cases hpp : p
        · rw [if_pos (hw.2 hpp)]
          refine .inl (Oper.wp_mono' (g5 Φ β a w hsub hpp) (fun a' w' ⟨u, Φ', ha, hvv, hle', heq, hf', hb⟩ => ?_) (fun _ _ _ h => h.elim))
          subst ha
          rw [g2]
          exact next Φ' u w' hle' (hsat.set hle' heq hf' hb g3 (fun _ => hvv) (fun hx => (hx hpp).elim))
        · rw [if_neg (fun hx => hpp (hw.1 hx)), g2]
          exact next Φ undef w Φ.le_refl (hsat.set Φ.le_refl (fun _ _ => rfl) hsat.fits (Below.refl _ _) g3 (fun hx => (hpp hx).elim) (fun _ => rfl))

theorem Kept.drew {w : World} (h : Kept G w) : Kept G { w with drawn := w.drawn + 1 } := ⟨h.os, h.tape, h.output, h.size, h.block⟩

/-- A REGION WHOSE ORDER IS OPEN: the first m operations in the text's order, the rest forced. -/
theorem W.draw {id : Nat} {l : List Oper} {env : Env} {Q : Exit → St → Prop} (ms : List Nat) (tss : List (List Nat)) (m : Nat) (hm : P.follows .mixedOrders = true) (hok : orderOk l ms tss m = true) (hml : Nat.ble m l.length = true)
    (h : Lex P G l.toArray n bl (l.take m) tss env fun env' => RG P G l.toArray (l.drop m) (Q .normal) (St.mk n env' bl)) : W P G (.region id l.toArray true) Q (St.mk n env bl) := fun Φ β a w hs => by
  have hml := Nat.le_of_ble_eq_true hml
  obtain ⟨vals, h1, h2, h3⟩ := Lex.vals h
  have hvl : vals.length = m := by rw [h1]; simp; omega
  refine wp_region_any hm ?_
  have hsz : l.toArray.size = l.length := by simp
  rw [hsz]
  refine lexAny hok hml hvl (fun i o him ho => h3 i o (by rw [List.getElem?_take, if_pos him]; exact ho)) h2 (Φ0 := Φ) (fun A' Φ' β' a' w' q s le => ⟨A', Φ', β', q, s, le⟩) l.length (Array.replicate l.length false) Φ β a { w with drawn := w.drawn + 1 } ?_ (by simp) (fun y o hy hL => ?_) (fun j _ hj => by simp [hj]) Φ.le_refl ?_
  · have : un (fun j => (Array.replicate l.length false).getD j true) l.length = un (fun j => decide (j < 0)) l.length := un_congr _ fun j hj => by simp [hj]
    rw [this, un_lt _ (Nat.zero_le _)]; omega
  · have : (Array.replicate l.length false).getD y false = true := hL
    rw [Array.getD_eq_getD_getElem?, Array.getElem?_replicate] at this
    split at this <;> simp at this
  · have hnone : eL (fun j => (Array.replicate l.length false).getD j false) 0 vals env = env := by
      have : (fun j => (Array.replicate l.length false).getD j false) = fun _ => false := by
        funext j
        rw [Array.getD_eq_getD_getElem?, Array.getElem?_replicate]
        split <;> rfl
      rw [this, eL_none]
    rw [hnone]
    refine ⟨hs.kept.drew, hs.fits, hs.old, hs.siz, hs.dfr, hs.env, hs.blk, hs.vir, hs.inj⟩

theorem Lex.nil {tss : List (List Nat)} {env : Env} {K : Env → Prop} (h : K env) : Lex P G ops n bl [] tss env K := h
theorem Lex.u {d : Nat} {op : Op} {ty : TypeId} {pos : String} {after : Array Edge} {ts : List Nat} {tss : List (List Nat)} {rest : List Oper} {env : Env} {K : Env → Prop} {v : AV}
    (hp : PureOp P G (St.mk n (only ts env) bl) ⟨some d, op, ty, pos, after, none⟩ True v) (hn : Nat.blt d n = true) (h : Lex P G ops n bl rest tss ((d, (True, v)) :: env) K) : Lex P G ops n bl (⟨some d, op, ty, pos, after, none⟩ :: rest) (ts :: tss) env K :=
  ⟨d, True, v, rfl, blt_lt hn, GOk.none rfl, hp, h⟩
theorem Lex.g {d j t : Nat} {want b : Bool} {op : Op} {ty : TypeId} {pos : String} {after : Array Edge} {ts : List Nat} {tss : List (List Nat)} {rest : List Oper} {env : Env} {K : Env → Prop} {v : AV}
    (hj : (ops[j]?).bind (·.dst) = some t) (ht : lk (only ts env) t = some (True, .pv (.one (.bool b))))
    (hp : PureOp P G (St.mk n (only ts env) bl) ⟨some d, op, ty, pos, after, some (j, want)⟩ (b = want) v) (hn : Nat.blt d n = true) (h : Lex P G ops n bl rest tss ((d, (b = want, v)) :: env) K) : Lex P G ops n bl (⟨some d, op, ty, pos, after, some (j, want)⟩ :: rest) (ts :: tss) env K :=
  ⟨d, _, v, rfl, blt_lt hn, GOk.ifT rfl hj ht, hp, h⟩
theorem W.draw2 {id : Nat} {l : List Oper} {env : Env} {Q : Exit → St → Prop} (ms : List Nat) (tss : List (List Nat)) (m : Nat) (sg : List (Nat × Nat)) (hm : P.follows .mixedOrders = true) (hok : orderOk2 l ms tss m sg = true) (hml : Nat.ble m l.length = true) (hsg : Nat.beq sg.length m = true)
    (h : Lex P G l.toArray n bl (l.take m) tss env fun env' => RG P G l.toArray (l.drop m) (Q .normal) (St.mk n env' bl)) : W P G (.region id l.toArray true) Q (St.mk n env bl) := W.draw ms tss m hm (orderOk_of2 (Nat.eq_of_beq_eq_true hsg) hok) hml h
theorem Lex.gq {d j t : Nat} {want b : Bool} {q : Prop} {op : Op} {ty : TypeId} {pos : String} {after : Array Edge} {ts : List Nat} {tss : List (List Nat)} {rest : List Oper} {env : Env} {K : Env → Prop} {v : AV}
    (hj : (ops[j]?).bind (·.dst) = some t) (ht : lk (only ts env) t = some (q, .pv (.one (.bool b))))
    (hp : PureOp P G (St.mk n (only ts env) bl) ⟨some d, op, ty, pos, after, some (j, want)⟩ (q ∧ b = want) v) (hn : Nat.blt d n = true) (h : Lex P G ops n bl rest tss ((d, (q ∧ b = want, v)) :: env) K) : Lex P G ops n bl (⟨some d, op, ty, pos, after, some (j, want)⟩ :: rest) (ts :: tss) env K :=
  ⟨d, _, v, rfl, blt_lt hn, GOk.if rfl hj ht, hp, h⟩
end
end Lf
