/-
  Part 3 of what the proof rests on.
-/
import Derived.Test.YtjedkgogjehigaaGreatUS02
import Derived.Orders
import Derived.Maps.RangeRun
import Derived.MapKept
section
set_option linter.unusedVariables false
set_option linter.unusedSimpArgs false
namespace Lf
open Go Go.RowKit
abbrev Env := List (Nat × (Prop × AV))
def only (ts : List Nat) : Env → Env
  | [] => []
  | (k, e) :: r => bif ts.any (Nat.beq k) then (k, e) :: only ts r else only ts r
theorem lk_only {ts : List Nat} : ∀ {env : Env} {t : Nat} {e : Prop × AV}, lk (only ts env) t = some e → t ∈ ts ∧ lk env t = some e
  | [], t, e, h => by simp [only, lk] at h
  | (k, x) :: r, t, e, h => by
    rw [only] at h
    cases hb : ts.any (Nat.beq k) with
    | true =>
      rw [hb, cond_true, lk_cons] at h
      split at h
      · rename_i hk; subst hk
        simp only [List.any_eq_true] at hb
        obtain ⟨y, hy, he⟩ := hb
        have := Nat.eq_of_beq_eq_true he
        subst this
        exact ⟨hy, by rw [lk_cons, if_pos rfl]; exact h⟩
      · rename_i hk
        obtain ⟨h1, h2⟩ := lk_only h
        exact ⟨h1, by rw [lk_cons, if_neg hk]; exact h2⟩
    | false =>
      rw [hb, cond_false] at h
      obtain ⟨h1, h2⟩ := lk_only h
      refine ⟨h1, ?_⟩
      have hk : k ≠ t := fun e => by
        subst e
        have : ts.any (Nat.beq k) = true := List.any_eq_true.2 ⟨k, h1, Nat.beq_refl k⟩
        rw [this] at hb; cases hb
      rw [lk_cons, if_neg hk]; exact h2
/-- The values that have come up, pushed in the text's order. -/
def eL (L : Nat → Bool) : Nat → Env → Env → Env
  | _, [], env => env
  | k, x :: r, env => eL L (k + 1) r (if L k then x :: env else env)
theorem eL_congr {L L' : Nat → Bool} {t : Nat} : ∀ (vals : Env) (k : Nat) (env env' : Env), lk env t = lk env' t → (∀ j x, vals[j]? = some x → x.1 = t → L (k + j) = L' (k + j)) → lk (eL L k vals env) t = lk (eL L' k vals env') t
  | [], k, env, env', h, _ => h
  | x :: r, k, env, env', h, hj => by
    rw [eL, eL]
    refine eL_congr r (k + 1) _ _ ?_ fun j y hy he => by have := hj (j + 1) y (by simpa using hy) he; rwa [show k + (j + 1) = k + 1 + j by omega] at this
    obtain ⟨t', e⟩ := x
    by_cases hx : t' = t
    · have := hj 0 (t', e) rfl hx
      simp only [Nat.add_zero] at this
      rw [this]
      split
      · rw [lk_cons, lk_cons, if_pos hx, if_pos hx]
      · exact h
    · split <;> split <;> simp [lk_cons, hx, h]
theorem eL_none : ∀ (vals : Env) (k : Nat) (env : Env), eL (fun _ => false) k vals env = env
  | [], _, _ => rfl
  | x :: r, k, env => by rw [eL]; exact eL_none r (k + 1) env
theorem eL_lt : ∀ (vals : Env) (k i : Nat) (env : Env) (x : Nat × (Prop × AV)), vals[i]? = some x → eL (fun j => decide (j < k + i + 1)) k vals env = x :: eL (fun j => decide (j < k + i)) k vals env
  | [], k, i, env, x, h => by simp at h
  | y :: r, k, 0, env, x, h => by
    simp at h; subst h
    have key : ∀ (r : Env) (k' : Nat) (env : Env), k < k' → eL (fun j => decide (j < k + 0 + 1)) k' r env = env := by
      intro r
      induction r with
      | nil => intro k' env _; rfl
      | cons z r ih => intro k' env hk; rw [eL, if_neg (by simp; omega)]; exact ih _ _ (by omega)
    have key' : ∀ (r : Env) (k' : Nat) (env : Env), k < k' → eL (fun j => decide (j < k + 0)) k' r env = env := by
      intro r
      induction r with
      | nil => intro k' env _; rfl
      | cons z r ih => intro k' env hk; rw [eL, if_neg (by simp; omega)]; exact ih _ _ (by omega)
    rw [eL, eL, key r (k + 1) _ (by omega), key' r (k + 1) _ (by omega), if_pos (by simp), if_neg (by simp)]
  | y :: r, k, i + 1, env, x, h => by
    rw [eL, eL, if_pos (by simp; omega), if_pos (by simp)]
    have := eL_lt r (k + 1) i (y :: env) x (by simpa using h)
    rw [show k + 1 + i + 1 = k + (i + 1) + 1 by omega, show k + 1 + i = k + (i + 1) by omega] at this
    exact this
def deps (o : Oper) : List Nat := o.after.toList.filterMap fun e => if Region.binds .any e then some e.on else none
def looks (ops : Array Oper) (o : Oper) : List Nat := o.looksAt ops
def clash (ops : Array Oper) (x y : Oper) : Bool :=
  (match x.dst with | some d => (looks ops y).any (Nat.beq d) | none => false) || (match y.dst with | some d => (looks ops x).any (Nat.beq d) || (match x.dst with | some d' => Nat.beq d d' | none => false) | none => false)
/-- no operation writes slot t -/
def unwr (l : List Oper) (t : Nat) : Bool := l.all fun x => match x.dst with | some d => !Nat.beq d t | none => true
theorem unwr_at {l : List Oper} {t : Nat} (h : unwr l t = true) {j : Nat} {o : Oper} (hj : l[j]? = some o) : o.dst ≠ some t := fun e => by
  have := List.all_eq_true.1 h o (List.mem_of_getElem? hj)
  rw [e] at this
  simp at this
def orderOk (l : List Oper) (ms : List Nat) (tss : List (List Nat)) (m : Nat) : Bool :=
  (List.range l.length).all fun y =>
    let o := l.getD y default
    let my := ms.getD y 0
    (deps o).all (fun j => Nat.blt j y) &&
    Nat.beq my ((deps o).foldl (fun s j => s ||| 2 ^ j ||| ms.getD j 0) 0) &&
    (bif Nat.blt y m then
      o.dst.isSome && (tss.getD y []).all (fun t => (looks l.toArray o).any (Nat.beq t) || unwr l t) && (List.range y).all (fun x => !clash l.toArray (l.getD x default) o || my.testBit x)
     else (List.range y).all fun x => my.testBit x)
def clash2 (a b : Nat × Nat) : Bool := b.2.testBit a.1 || a.2.testBit b.1 || Nat.beq a.1 b.1
def sigOk (ops : Array Oper) (o : Oper) (s : Nat × Nat) : Bool := (match o.dst with | some d => Nat.beq d s.1 | none => false) && (looks ops o).all fun t => s.2.testBit t
def pairsOk (s : Nat × Nat) (my : Nat) : Nat → List (Nat × Nat) → Bool
  | _, [] => true
  | x, a :: r => (!clash2 a s || my.testBit x) && pairsOk s my (x + 1) r
def orderOk2 (l : List Oper) (ms : List Nat) (tss : List (List Nat)) (m : Nat) (sg : List (Nat × Nat)) : Bool :=
  (List.range l.length).all fun y =>
    let o := l.getD y default
    let my := ms.getD y 0
    (deps o).all (fun j => Nat.blt j y) &&
    Nat.beq my ((deps o).foldl (fun s j => s ||| 2 ^ j ||| ms.getD j 0) 0) &&
    (bif Nat.blt y m then
      sigOk l.toArray o (sg.getD y (0, 0)) && (tss.getD y []).all (fun t => (looks l.toArray o).any (Nat.beq t) || unwr l t) && pairsOk (sg.getD y (0, 0)) my 0 (sg.take y)
     else (List.range y).all fun x => my.testBit x)
theorem pairsOk_at {s : Nat × Nat} {my : Nat} : ∀ {l : List (Nat × Nat)} {k x : Nat} {a : Nat × Nat}, pairsOk s my k l = true → l[x]? = some a → clash2 a s = true → my.testBit (k + x) = true
  | [], k, x, a, _, hx, _ => by simp at hx
  | b :: r, k, 0, a, h, hx, hc => by
    simp at hx; subst hx
    rw [pairsOk, hc] at h
    simp at h
    simpa using h.1
  | b :: r, k, x + 1, a, h, hx, hc => by
    rw [pairsOk, Bool.and_eq_true] at h
    have := pairsOk_at h.2 (by simpa using hx) hc
    rwa [show k + 1 + x = k + (x + 1) by omega] at this
theorem clash_of {ops : Array Oper} {x y : Oper} {a b : Nat × Nat} (hx : sigOk ops x a = true) (hy : sigOk ops y b = true) (hc : clash ops x y = true) : clash2 a b = true := by
  unfold sigOk at hx hy
  rw [Bool.and_eq_true] at hx hy
  obtain ⟨hx1, hx2⟩ := hx
  obtain ⟨hy1, hy2⟩ := hy
  cases hdx : x.dst with
  | none => rw [hdx] at hx1; cases hx1
  | some d =>
    cases hdy : y.dst with
    | none => rw [hdy] at hy1; cases hy1
    | some e =>
      rw [hdx] at hx1
      rw [hdy] at hy1
      have ea := Nat.eq_of_beq_eq_true hx1
      have eb := Nat.eq_of_beq_eq_true hy1
      unfold clash at hc
      rw [hdx, hdy] at hc
      simp only [Bool.or_eq_true] at hc
      unfold clash2
      simp only [Bool.or_eq_true]
      rcases hc with h | h | h
      · obtain ⟨t, ht, he⟩ := List.any_eq_true.1 h
        have := Nat.eq_of_beq_eq_true he
        exact .inl (.inl (by rw [← ea, this]; exact List.all_eq_true.1 hy2 t ht))
      · obtain ⟨t, ht, he⟩ := List.any_eq_true.1 h
        have := Nat.eq_of_beq_eq_true he
        exact .inl (.inr (by rw [← eb, this]; exact List.all_eq_true.1 hx2 t ht))
      · have := Nat.eq_of_beq_eq_true h
        exact .inr (by rw [← ea, ← eb, this]; exact Nat.beq_refl _)
theorem orderOk_of2 {l : List Oper} {ms : List Nat} {tss : List (List Nat)} {m : Nat} {sg : List (Nat × Nat)} (hsg : sg.length = m) (h : orderOk2 l ms tss m sg = true) : orderOk l ms tss m = true := by
  refine List.all_eq_true.2 fun y hy => ?_
  have h0 := List.all_eq_true.1 h y hy
  simp only [Bool.and_eq_true] at h0 ⊢
  refine ⟨h0.1, ?_⟩
  have h1 := h0.2
  cases hb : Nat.blt y m with
  | false => rw [hb] at h1; exact h1
  | true =>
    rw [hb, cond_true] at h1
    rw [cond_true]
    simp only [Bool.and_eq_true] at h1 ⊢
    obtain ⟨⟨h2, h3⟩, h4⟩ := h1
    refine ⟨⟨?_, h3⟩, List.all_eq_true.2 fun x hx => ?_⟩
    · unfold sigOk at h2
      cases hd : (l.getD y default).dst with
      | none => rw [hd] at h2; simp at h2
      | some d => rfl
    · have hxy := List.mem_range.1 hx
      have hym := blt_lt hb
      have hxr : x ∈ List.range l.length := List.mem_range.2 (by have := List.mem_range.1 hy; omega)
      have g0 := List.all_eq_true.1 h x hxr
      have hbx : Nat.blt x m = true := by simp [Nat.blt_eq]; omega
      simp only [hbx, cond_true, Bool.and_eq_true] at g0
      have g2 := g0.2.1.1
      cases hc : clash l.toArray (l.getD x default) (l.getD y default) with
      | false => simp
      | true =>
        have := clash_of g2 h2 hc
        have hgx : (sg.take y)[x]? = some (sg.getD x (0, 0)) := by
          rw [List.getElem?_take, if_pos hxy]
          simp [List.getD, List.getElem?_eq_getElem (show x < sg.length by omega)]
        have := pairsOk_at h4 hgx this
        simp only [Nat.zero_add] at this
        simp only [Bool.not_true, Bool.false_or]
        exact this
theorem fold_bit (ms : List Nat) : ∀ (ds : List Nat) (s j : Nat), (ds.foldl (fun s j => s ||| 2 ^ j ||| ms.getD j 0) s).testBit j = true → s.testBit j = true ∨ ∃ d ∈ ds, j = d ∨ (ms.getD d 0).testBit j = true
  | [], s, j, h => .inl h
  | d :: ds, s, j, h => by
    rw [List.foldl_cons] at h
    rcases fold_bit ms ds _ j h with h | ⟨d', h1, h2⟩
    · simp only [Nat.testBit_or, Bool.or_eq_true, Nat.testBit_two_pow, decide_eq_true_eq] at h
      rcases h with (h | h) | h
      · exact .inl h
      · exact .inr ⟨d, by simp, .inl h.symm⟩
      · exact .inr ⟨d, by simp, .inr h⟩
    · exact .inr ⟨d', List.mem_cons_of_mem _ h1, h2⟩
section
variable {l : List Oper} {ms : List Nat} {tss : List (List Nat)} {m : Nat}
theorem orderOk_at (h : orderOk l ms tss m = true) {y : Nat} {o : Oper} (hy : l[y]? = some o) :
    (∀ j ∈ deps o, j < y) ∧ (∀ j, (ms.getD y 0).testBit j = true → ∃ d ∈ deps o, j = d ∨ (ms.getD d 0).testBit j = true) ∧
    (y < m → (∃ d, o.dst = some d) ∧ (∀ t ∈ tss.getD y [], t ∈ looks l.toArray o ∨ ∀ (j : Nat) (ox : Oper), l[j]? = some ox → ox.dst ≠ some t) ∧ ∀ x ox, x < y → l[x]? = some ox → clash l.toArray ox o = true → (ms.getD y 0).testBit x = true) ∧
    (m ≤ y → ∀ x, x < y → (ms.getD y 0).testBit x = true) := by
  have hlt := (List.getElem?_eq_some_iff.1 hy).1
  have h0 := List.all_eq_true.1 h y (List.mem_range.2 hlt)
  have hg : l.getD y default = o := by simp [List.getD, hy]
  simp only [hg, Bool.and_eq_true] at h0
  obtain ⟨⟨h1, h2⟩, h3⟩ := h0
  refine ⟨fun j hj => blt_lt (List.all_eq_true.1 h1 j hj), fun j hj => ?_, fun hm => ?_, fun hm x hx => ?_⟩
  · rw [Nat.eq_of_beq_eq_true h2] at hj
    rcases fold_bit ms _ _ _ hj with h | h
    · simp at h
    · exact h
  · have hb : Nat.blt y m = true := by simpa [Nat.blt_eq] using hm
    rw [hb, cond_true] at h3
    simp only [Bool.and_eq_true] at h3
    refine ⟨Option.isSome_iff_exists.1 h3.1.1, fun t ht => ?_, fun x ox hx hox hc => ?_⟩
    · have h5 := List.all_eq_true.1 h3.1.2 t ht
      rw [Bool.or_eq_true] at h5
      rcases h5 with h5 | h5
      · obtain ⟨z, hz, he⟩ := List.any_eq_true.1 h5
        exact .inl (by rw [Nat.eq_of_beq_eq_true he]; exact hz)
      · exact .inr fun j ox hj => unwr_at h5 hj
    · have := List.all_eq_true.1 h3.2 x (List.mem_range.2 hx)
      have hgx : l.getD x default = ox := by simp [List.getD, hox]
      rw [hgx, hc] at this
      simpa using this
  · have hb : Nat.blt y m = false := by
      cases hb : Nat.blt y m with
      | false => rfl
      | true => have := blt_lt hb; omega
    rw [hb, cond_false] at h3
    exact List.all_eq_true.1 h3 x (List.mem_range.2 hx)
/-- What is listed goes down along the edges. -/
def Closed (l : List Oper) (L : Nat → Bool) : Prop := ∀ y o, l[y]? = some o → L y = true → ∀ j ∈ deps o, L j = true
theorem closed_anc (h : orderOk l ms tss m = true) {L : Nat → Bool} (hc : Closed l L) : ∀ (y : Nat) (o : Oper), l[y]? = some o → (∀ j ∈ deps o, L j = true) → ∀ x, (ms.getD y 0).testBit x = true → L x = true := by
  intro y
  induction y using Nat.strongRecOn with
  | _ y ih =>
    intro o hy hd x hx
    obtain ⟨h1, h2, _⟩ := orderOk_at h hy
    obtain ⟨d, hd1, hd2⟩ := h2 x hx
    rcases hd2 with rfl | hd2
    · exact hd _ hd1
    · have hlt := h1 d hd1
      have hyl := (List.getElem?_eq_some_iff.1 hy).1
      have hdl : l[d]? = some (l[d]'(by omega)) := List.getElem?_eq_getElem _
      exact ih d hlt _ hdl (hc d _ hdl (hd d hd1)) x hd2
end
theorem Sat.env_congr {G : Ghost} {Φ : Frz} {β : Own} {n : Nat} {env env' : Env} {bl : List (Nat × Blk)} {a : Act} {w : World} (h : Sat G Φ β (St.mk n env bl) a w) (he : ∀ t e, lk env' t = some e → lk env t = some e) : Sat G Φ β (St.mk n env' bl) a w :=
  ⟨h.kept, h.fits, h.old, h.siz, h.dfr, fun t q v hl => h.env t q v (he t _ hl), h.blk, h.vir, h.inj⟩
section
variable {P : Program} {G : Ghost} {ops : Array Oper} {n : Nat} {bl : List (Nat × Blk)}
/-- THE LEXICAL RUN: each operation by what it looks at. -/
def Lex (P : Program) (G : Ghost) (ops : Array Oper) (n : Nat) (bl : List (Nat × Blk)) : List Oper → List (List Nat) → Env → (Env → Prop) → Prop
  | [], _, env, K => K env
  | o :: rest, tss, env, K => ∃ d p v, o.dst = some d ∧ d < n ∧ GOk (St.mk n (only (tss.headD []) env) bl) ops o p ∧ PureOp P G (St.mk n (only (tss.headD []) env) bl) o p v ∧ Lex P G ops n bl rest tss.tail ((d, (p, v)) :: env) K
theorem Lex.vals : ∀ {l : List Oper} {tss : List (List Nat)} {env : Env} {K : Env → Prop}, Lex P G ops n bl l tss env K →
    ∃ vals : Env, vals.length = l.length ∧ K (eL (fun _ => true) 0 vals env) ∧ ∀ i o, l[i]? = some o → ∃ d p v, vals[i]? = some (d, (p, v)) ∧ o.dst = some d ∧ d < n ∧
      GOk (St.mk n (only (tss.getD i []) (eL (fun j => decide (j < i)) 0 vals env)) bl) ops o p ∧ PureOp P G (St.mk n (only (tss.getD i []) (eL (fun j => decide (j < i)) 0 vals env)) bl) o p v
  | [], tss, env, K, h => ⟨[], rfl, h, fun i o hi => by simp at hi⟩
  | o :: rest, tss, env, K, ⟨d, p, v, h1, h2, h3, h4, h5⟩ => by
    obtain ⟨vals, g1, g2, g3⟩ := Lex.vals h5
    have shift : ∀ (L : Nat → Bool) (vals : Env) (k : Nat) (env : Env), eL L (k + 1) vals env = eL (fun j => L (j + 1)) k vals env := by
      intro L vals
      induction vals with
      | nil => intro k env; rfl
      | cons x r ih => intro k env; rw [eL, eL, ih]
    refine ⟨(d, (p, v)) :: vals, by simp [g1], ?_, fun i o' hi => ?_⟩
    · rw [eL, if_pos rfl, shift]; exact g2
    · cases i with
      | zero =>
        simp at hi; subst hi
        have hz : eL (fun j => decide (j < 0)) 0 ((d, (p, v)) :: vals) env = env := by
          have : (fun j => decide (j < 0)) = fun _ : Nat => false := by funext j; simp
          rw [this, eL_none]
        have ht : tss.getD 0 [] = tss.headD [] := by cases tss <;> rfl
        rw [hz, ht]
        exact ⟨d, p, v, rfl, h1, h2, h3, h4⟩
      | succ i =>
        obtain ⟨d', p', v', k1, k2, k3, k4, k5⟩ := g3 i o' (by simpa using hi)
        have hz : eL (fun j => decide (j < i + 1)) 0 ((d, (p, v)) :: vals) env = eL (fun j => decide (j < i)) 0 vals ((d, (p, v)) :: env) := by
          rw [eL, if_pos (by simp), shift]
          congr 1
          funext j; simp
        have ht : tss.getD (i + 1) [] = tss.tail.getD i [] := by cases tss <;> simp
        rw [hz, ht]
        exact ⟨d', p', v', by simpa using k1, k2, k3, k4, k5⟩
theorem mem_ready' {l : List Oper} {L : Array Bool} {i : Nat} (h : i ∈ Region.ready .any l.toArray L) : ∃ o, l[i]? = some o ∧ L.getD i true = false ∧ ∀ j ∈ deps o, L.getD j false = true := by
  obtain ⟨h1, o, h2, h3⟩ := mem_ready.1 h
  refine ⟨o, by simpa using h2, h1, fun j hj => ?_⟩
  simp only [deps, List.mem_filterMap] at hj
  obtain ⟨e, he, hb⟩ := hj
  split at hb
  · rename_i hbind
    obtain rfl := Option.some.inj hb
    exact h3 e (by simpa using he) hbind
  · cases hb
theorem ready_mk {l : List Oper} {L : Array Bool} {i : Nat} {o : Oper} (ho : l[i]? = some o) (hu : L.getD i true = false) (hd : ∀ j ∈ deps o, L.getD j false = true) : i ∈ Region.ready .any l.toArray L :=
  mem_ready.2 ⟨hu, o, by simpa using ho, fun e he hb => hd e.on (by simp only [deps, List.mem_filterMap]; exact ⟨e, by simpa using he, by simp [hb]⟩)⟩
/-- The end of the region in the text's order, where it is forced. -/
theorem forced {l : List Oper} {ms : List Nat} {tss : List (List Nat)} {m : Nat} (hok : orderOk l ms tss m = true) {Q' : Exit → Act → World → Prop} :
    ∀ (fuel k : Nat) (L : Array Bool) (a : Act) (w : World), fuel = l.length - k → m ≤ k → k ≤ l.length → L.size = l.length → (∀ j, j < l.length → L.getD j true = decide (j < k)) →
      wpList P l.toArray Q' (l.drop k) a w → wpAny P .any l.toArray Q' fuel L a w := by
  intro fuel
  induction fuel with
  | zero =>
    intro k L a w hf hm hk hs hL h
    have hkl : k = l.length := by omega
    have hdrop : l.drop k = [] := List.drop_eq_nil_of_le (by omega)
    rw [hdrop] at h
    refine ⟨?_, h⟩
    refine List.eq_nil_iff_forall_not_mem.2 fun i hi => ?_
    obtain ⟨o, h1, h2, _⟩ := mem_ready' hi
    have hil := (List.getElem?_eq_some_iff.1 h1).1
    rw [hL i hil] at h2
    simp at h2; omega
  | succ fuel ih =>
    intro k L a w hf hm hk hs hL h
    have hkl : k < l.length := by omega
    have hLf : ∀ j, j < l.length → L.getD j false = decide (j < k) := fun j hj => by
      have := hL j hj
      rw [Array.getD_eq_getD_getElem?] at this ⊢
      rw [Array.getElem?_eq_getElem (by omega)] at this ⊢
      exact this
    have hcl : Closed l (fun j => L.getD j false) := fun y o hy hL' j hj => by
      have hyl := (List.getElem?_eq_some_iff.1 hy).1
      have hjy := (orderOk_at hok hy).1 j hj
      have hL' : L.getD y false = true := hL'
      rw [hLf y hyl] at hL'
      show L.getD j false = true
      rw [hLf j (by omega)]
      simp at hL' ⊢; omega
    refine ⟨fun hr => ?_, fun i hi => ?_⟩
    · exfalso
      have hmem : k ∈ Region.ready .any l.toArray L := ready_mk (o := l[k]) (List.getElem?_eq_getElem _) (by rw [hL k hkl]; simp) (fun j hj => by
        have := (orderOk_at hok (List.getElem?_eq_getElem hkl)).1 j hj
        rw [hLf j (by omega)]; simpa using this)
      rw [hr] at hmem; cases hmem
    · obtain ⟨o, h1, h2, h3⟩ := mem_ready' hi
      have hil := (List.getElem?_eq_some_iff.1 h1).1
      have hik : i = k := by
        rcases Nat.lt_trichotomy i k with hlt | heq | hgt
        · rw [hL i hil] at h2; simp at h2; omega
        · exact heq
        · exfalso
          have hanc := (orderOk_at hok h1).2.2.2 (by omega) k hgt
          have := closed_anc hok hcl i o h1 h3 k hanc
          have this : L.getD k false = true := this
          rw [hLf k hkl] at this
          simp at this
      subst hik
      rw [List.drop_eq_getElem_cons hkl] at h
      have ho : l[i] = o := by rw [List.getElem?_eq_getElem hil] at h1; exact Option.some.inj h1
      rw [ho] at h
      unfold wpOp
      have hio : l.toArray[i]? = some o := by simpa using h1
      simp only [hio]
      have next : ∀ a' w', wpList P l.toArray Q' (l.drop (i + 1)) a' w' → wpAny P .any l.toArray Q' fuel (L.setIfInBounds i true) a' w' := fun a' w' hn =>
        ih (i + 1) _ a' w' (by omega) (by omega) (by omega) (by simpa using hs) (fun j hj => by
          by_cases e : j = i
          · subst e
            rw [Array.getD_eq_getD_getElem?, Array.getElem?_setIfInBounds_self_of_lt (by omega)]
            simp
          · rw [getD_set_ne true (Ne.symm e), hL j hj]
            simp only [decide_eq_decide]; omega) hn
      unfold wpList at h
      split
      · rename_i hw
        rw [if_pos hw] at h
        exact h.imp (Oper.wp_mono next) id
      · rename_i hw
        rw [if_neg hw] at h
        exact next _ _ h
def un (L : Nat → Bool) : Nat → Nat
  | 0 => 0
  | n + 1 => (if L n then 0 else 1) + un L n
theorem un_congr {L L' : Nat → Bool} : ∀ n, (∀ j, j < n → L j = L' j) → un L n = un L' n
  | 0, _ => rfl
  | n + 1, h => by rw [un, un, h n (by omega), un_congr n (fun j hj => h j (by omega))]
theorem un_set {L L' : Nat → Bool} {i : Nat} (hi : L i = false) (hi' : L' i = true) (ho : ∀ j, j ≠ i → L' j = L j) : ∀ n, i < n → un L n = un L' n + 1
  | 0, h => by omega
  | n + 1, h => by
    rw [un, un]
    by_cases e : i = n
    · subst e
      rw [hi, hi', un_congr (L := L') (L' := L) i (fun j hj => ho j (by omega))]
      simp; omega
    · rw [ho n (Ne.symm e), un_set hi hi' ho n (by omega)]
      omega
theorem un_zero {L : Nat → Bool} : ∀ n, un L n = 0 → ∀ i, i < n → L i = true
  | 0, _, i, hi => by omega
  | n + 1, h, i, hi => by
    rw [un] at h
    by_cases e : i = n
    · subst e
      cases hL : L i with
      | true => rfl
      | false => rw [hL] at h; simp at h
    · exact un_zero n (by omega) i (by omega)
theorem un_lt {m : Nat} : ∀ n, m ≤ n → un (fun j => decide (j < m)) n = n - m
  | 0, h => by simp [un]
  | n + 1, h => by
    rw [un]
    by_cases e : m = n + 1
    · subst e
      have : ∀ k, k ≤ n + 1 → un (fun j => decide (j < n + 1)) k = 0 := by
        intro k
        induction k with
        | zero => intro _; rfl
        | succ k ih => intro hk; rw [un, ih (by omega)]; simp; omega
      rw [this n (by omega)]; simp
    · rw [un_lt n (by omega)]
      have : ¬ n < m := by omega
      simp [this]; omega
theorem lexAny {l : List Oper} {ms : List Nat} {tss : List (List Nat)} {m : Nat} (hok : orderOk l ms tss m = true) (hml : m ≤ l.length) {vals env : Env} {Φ0 : Frz} {Qs : St → Prop} {Q' : Exit → Act → World → Prop} (hvl : vals.length = m)
    (hv : ∀ i o, i < m → l[i]? = some o → ∃ d p v, vals[i]? = some (d, (p, v)) ∧ o.dst = some d ∧ d < n ∧ GOk (St.mk n (only (tss.getD i []) (eL (fun j => decide (j < i)) 0 vals env)) bl) l.toArray o p ∧ PureOp P G (St.mk n (only (tss.getD i []) (eL (fun j => decide (j < i)) 0 vals env)) bl) o p v)
    (hK : RG P G l.toArray (l.drop m) Qs (St.mk n (eL (fun _ => true) 0 vals env) bl))
    (hq : ∀ A' Φ' β' a' w', Qs A' → Sat G Φ' β' A' a' w' → Φ0.le Φ' → Q' .normal a' w') :
    ∀ (fuel : Nat) (L : Array Bool) (Φ : Frz) (β : Own) (a : Act) (w : World), fuel = un (fun j => L.getD j true) l.length → L.size = l.length → Closed l (fun j => L.getD j false) → (∀ j, m ≤ j → j < l.length → L.getD j true = false) → Φ0.le Φ →
      Sat G Φ β (St.mk n (eL (fun j => L.getD j false) 0 vals env) bl) a w → wpAny P .any l.toArray Q' fuel L a w := by
  intro fuel
  induction fuel with
  | zero =>
    intro L Φ β a w hf hs hcl htl hle hsat
    have hall := un_zero _ hf.symm
    have hm : m = l.length := by
      rcases Nat.lt_or_ge m l.length with h | h
      · have h' : L.getD m true = true := hall m h
        rw [htl m (Nat.le_refl _) h] at h'; cases h'
      · omega
    refine forced hok 0 m L a w (by omega) (Nat.le_refl _) hml hs (fun j hj => by have h' : L.getD j true = true := hall j hj; rw [h']; simp; omega) ?_
    refine hK Φ β a w (hsat.env_congr fun t e h => ?_) Q' fun A' Φ' β' a' w' q s le => hq A' Φ' β' a' w' q s (Frz.le_trans hle le)
    rw [← h]
    refine eL_congr vals 0 env env rfl fun j x hj hx => ?_
    have hjl : j < l.length := by have := (List.getElem?_eq_some_iff.1 hj).1; omega
    have := hall j hjl
    simp only [Nat.zero_add] at this ⊢
    rw [Array.getD_eq_getD_getElem?, Array.getElem?_eq_getElem (by omega)] at this ⊢
    exact this
  | succ fuel ih =>
    intro L Φ β a w hf hs hcl htl hle hsat
    have hLf : ∀ j, j < l.length → L.getD j false = L.getD j true := fun j hj => by
      rw [Array.getD_eq_getD_getElem?, Array.getD_eq_getD_getElem?, Array.getElem?_eq_getElem (by omega)]; rfl
    by_cases hpre : ∀ j, j < m → L.getD j true = true
    · refine forced hok (fuel + 1) m L a w ?_ (Nat.le_refl _) hml hs (fun j hj => ?_) ?_
      · rw [hf, un_congr (L' := fun j => decide (j < m)) _ (fun j hj => ?_), un_lt _ hml]
        by_cases e : j < m
        · rw [hpre j e]; simp [e]
        · rw [htl j (by omega) hj]; simp [e]
      · by_cases e : j < m
        · rw [hpre j e]; simp [e]
        · rw [htl j (by omega) hj]; simp [e]
      · refine hK Φ β a w (hsat.env_congr fun t e h => ?_) Q' fun A' Φ' β' a' w' q s le => hq A' Φ' β' a' w' q s (Frz.le_trans hle le)
        rw [← h]
        refine eL_congr vals 0 env env rfl fun j x hj hx => ?_
        have hjm : j < m := by have := (List.getElem?_eq_some_iff.1 hj).1; omega
        simp only [Nat.zero_add]
        rw [hLf j (by omega), hpre j hjm]
    · -- some early operation is not listed yet; the first of them
      have hex : ∃ y, y < m ∧ L.getD y true = false ∧ ∀ j, j < y → L.getD j true = true := by
        have : ∃ j, j < m ∧ L.getD j true = false := by
          refine Classical.byContradiction fun hno => hpre fun j hj => ?_
          cases hb : L.getD j true with
          | true => rfl
          | false => exact absurd ⟨j, hj, hb⟩ hno
        obtain ⟨j0, hj0, hb0⟩ := this
        have key : ∀ k, k ≤ m → (∀ j, j < k → L.getD j true = true) ∨ ∃ y, y < m ∧ L.getD y true = false ∧ ∀ j, j < y → L.getD j true = true := by
          intro k
          induction k with
          | zero => intro _; exact .inl fun j hj => by omega
          | succ k ihk =>
            intro hk
            rcases ihk (by omega) with h | h
            · cases hb : L.getD k true with
              | true =>
                refine .inl fun j hj => ?_
                by_cases e : j = k
                · rw [e]; exact hb
                · exact h j (by omega)
              | false => exact .inr ⟨k, by omega, hb, h⟩
            · exact .inr h
        rcases key m (Nat.le_refl _) with h | h
        · have := h j0 hj0; rw [hb0] at this; cases this
        · exact h
      obtain ⟨y, hym, hyu, hyl⟩ := hex
      have hylen : y < l.length := by omega
      refine ⟨fun hr => ?_, fun i hi => ?_⟩
      · exfalso
        have hmem : y ∈ Region.ready .any l.toArray L := ready_mk (o := l[y]) (List.getElem?_eq_getElem _) hyu (fun j hj => by
          have := (orderOk_at hok (List.getElem?_eq_getElem hylen)).1 j hj
          rw [hLf j (by omega)]; exact hyl j this)
        rw [hr] at hmem; cases hmem
      · obtain ⟨o, h1, h2, h3⟩ := mem_ready' hi
        have hil := (List.getElem?_eq_some_iff.1 h1).1
        have him : i < m := by
          rcases Nat.lt_or_ge i m with h | h
          · exact h
          · exfalso
            have hanc := (orderOk_at hok h1).2.2.2 h y (by omega)
            have := closed_anc hok hcl i o h1 h3 y hanc
            have this : L.getD y false = true := this
            rw [hLf y hylen, hyu] at this; cases this
        obtain ⟨d, p, v, g1, g2, g3, g4, g5⟩ := hv i o him h1
        obtain ⟨_, hlooks, hord⟩ := (orderOk_at hok h1).2.2.1 him
        have hLi : L.getD i false = false := by rw [hLf i hil]; exact h2
        -- who writes what this operation looks at, or writes
        have before : ∀ j x, vals[j]? = some x → (x.1 ∈ looks l.toArray o ∨ x.1 = d) → j ≠ i → L.getD j false = decide (j < i) := fun j x hj hx hne => by
          have hjm : j < m := by have := (List.getElem?_eq_some_iff.1 hj).1; omega
          have hjl : j < l.length := by omega
          have hoj : l[j]? = some l[j] := List.getElem?_eq_getElem _
          obtain ⟨dj, pj, vj, q1, q2, _⟩ := hv j l[j] hjm hoj
          rw [hj] at q1
          obtain rfl := Option.some.inj q1
          simp only at hx
          rcases Nat.lt_or_ge j i with hlt | hge
          · have hc : clash l.toArray l[j] o = true := by
              unfold clash
              rw [q2, g2]
              rcases hx with hx | hx
              · have : (looks l.toArray o).any (Nat.beq dj) = true := List.any_eq_true.2 ⟨dj, hx, Nat.beq_refl _⟩
                simp [this]
              · subst hx; simp
            have := closed_anc hok hcl i o h1 h3 j (hord j _ hlt hoj hc)
            have this : L.getD j false = true := this
            rw [this]; simp [hlt]
          · have hgt : i < j := by omega
            have hc : clash l.toArray o l[j] = true := by
              unfold clash
              rw [q2, g2]
              rcases hx with hx | hx
              · have : (looks l.toArray o).any (Nat.beq dj) = true := List.any_eq_true.2 ⟨dj, hx, Nat.beq_refl _⟩
                simp [this]
              · subst hx; simp
            cases hb : L.getD j false with
            | false => simp; omega
            | true =>
              exfalso
              have hordj := ((orderOk_at hok hoj).2.2.1 hjm).2.2 i o hgt h1 hc
              have := closed_anc hok hcl j _ hoj (hcl j _ hoj hb) i hordj
              have this : L.getD i false = true := this
              rw [hLi] at this; cases this
        have hsub : Sat G Φ β (St.mk n (only (tss.getD i []) (eL (fun j => decide (j < i)) 0 vals env)) bl) a w := hsat.env_congr fun t e h => by
          obtain ⟨ht, he⟩ := lk_only h
          rw [← he]
          refine eL_congr vals 0 env env rfl fun j x hj hx => ?_
          simp only [Nat.zero_add]
          by_cases hji : j = i
          · subst hji; rw [hLi]; simp
          · rcases hlooks t ht with hl1 | hl2
            · exact before j x hj (.inl (by rw [hx]; exact hl1)) hji
            · exfalso
              have hjm : j < m := by have := (List.getElem?_eq_some_iff.1 hj).1; omega
              have hoj : l[j]? = some (l[j]'(by omega)) := List.getElem?_eq_getElem _
              obtain ⟨dj, pj, vj, q1, q2, _⟩ := hv j _ hjm hoj
              rw [hj] at q1
              obtain rfl := Option.some.inj q1
              exact hl2 j _ hoj (by rw [q2]; simp only at hx; rw [hx])
        have hw := g4 G Φ β a w hsub
        have next : ∀ (Φ' : Frz) (u : Value) (w' : World), Φ.le Φ' → Sat G Φ' β (St.mk n ((d, (p, v)) :: eL (fun j => L.getD j false) 0 vals env) bl) (a.put (some d) u) w' → wpAny P .any l.toArray Q' fuel (L.setIfInBounds i true) (a.put (some d) u) w' := fun Φ' u w' hle' hsat' => by
          have hne : ∀ j, j ≠ i → ∀ b, (L.setIfInBounds i true).getD j b = L.getD j b := fun j hj b => getD_set_ne b (Ne.symm hj)
          have heq : ∀ b, (L.setIfInBounds i true).getD i b = true := fun b => by rw [Array.getD_eq_getD_getElem?, Array.getElem?_setIfInBounds_self_of_lt (by omega)]; rfl
          refine ih _ Φ' β _ w' ?_ (by simpa using hs) (fun y' o' hy' hL' j hj => ?_) (fun j hmj hjl => by rw [hne j (by omega)]; exact htl j hmj hjl) (Frz.le_trans hle hle') (hsat'.env_congr fun t e h => ?_)
          · have := un_set (L := fun j => L.getD j true) (L' := fun j => (L.setIfInBounds i true).getD j true) (i := i) h2 (heq true) (fun j hj => hne j hj true) l.length hil
            omega
          · by_cases e1 : j = i
            · subst e1; exact heq false
            · show (L.setIfInBounds i true).getD j false = true
              rw [hne j e1]
              by_cases e2 : y' = i
              · subst e2
                rw [h1] at hy'
                obtain rfl := Option.some.inj hy'
                exact h3 j hj
              · have hL'' : L.getD y' false = true := by rw [← hne y' e2 false]; exact hL'
                exact hcl y' o' hy' hL'' j hj
          · by_cases e1 : t = d
            · subst e1
              have hl1 : lk (eL (fun j => (L.setIfInBounds i true).getD j false) 0 vals env) t = lk (eL (fun j => decide (j < 0 + i + 1)) 0 vals env) t := eL_congr vals 0 env env rfl fun j x hj hx => by
                simp only [Nat.zero_add]
                by_cases hji : j = i
                · subst hji; rw [heq]; simp
                · rw [hne j hji, before j x hj (.inr hx) hji]
                  simp only [decide_eq_decide]; omega
              rw [hl1, eL_lt vals 0 i env _ g1, lk_cons, if_pos rfl] at h
              rw [lk_cons, if_pos rfl]; exact h
            · rw [lk_cons, if_neg (Ne.symm e1), ← h]
              refine eL_congr vals 0 env env rfl fun j x hj hx => ?_
              simp only [Nat.zero_add]
              by_cases hji : j = i
              · subst hji
                rw [hj] at g1
                obtain rfl := Option.some.inj g1
                exact absurd hx.symm e1
              · rw [hne j hji]
        unfold wpOp
        have hio : l.toArray[i]? = some o := by simpa using h1
        simp only [hio]
        by_cases hpp : p
        · rw [if_pos (hw.2 hpp)]
          refine .inl (Oper.wp_mono' (g5 Φ β a w hsub hpp) (fun a' w' ⟨u, Φ', ha, hvv, hle', heq, hf', hb⟩ => ?_) (fun _ _ _ h => h.elim))
          subst ha
          rw [g2]
          exact next Φ' u w' hle' (hsat.set hle' heq hf' hb g3 (fun _ => hvv) (fun hx => (hx hpp).elim))
        · rw [if_neg (fun hx => hpp (hw.1 hx)), g2]
          exact next Φ undef w Φ.le_refl (hsat.set Φ.le_refl (fun _ _ => rfl) hsat.fits (Below.refl _ _) g3 (fun hx => (hpp hx).elim) (fun _ => rfl))
theorem Kept.drew {w : World} (h : Kept G w) : Kept G { w with drawn := w.drawn + 1 } := ⟨h.os, h.tape, h.output, h.size, h.block⟩
/-- A REGION WHOSE ORDER IS OPEN: the first m operations in the text's order, the rest forced. -/
theorem W.draw {id : Nat} {l : List Oper} {env : Env} {Q : Exit → St → Prop} (ms : List Nat) (tss : List (List Nat)) (m : Nat) (hm : P.follows .mixedOrders = true) (hok : orderOk l ms tss m = true) (hml : Nat.ble m l.length = true)
    (h : Lex P G l.toArray n bl (l.take m) tss env fun env' => RG P G l.toArray (l.drop m) (Q .normal) (St.mk n env' bl)) : W P G (.region id l.toArray true) Q (St.mk n env bl) := fun Φ β a w hs => by
  have hml := Nat.le_of_ble_eq_true hml
  obtain ⟨vals, h1, h2, h3⟩ := Lex.vals h
  have hvl : vals.length = m := by rw [h1]; simp; omega
  refine wp_region_any hm ?_
  have hsz : l.toArray.size = l.length := by simp
  rw [hsz]
  refine lexAny hok hml hvl (fun i o him ho => h3 i o (by rw [List.getElem?_take, if_pos him]; exact ho)) h2 (Φ0 := Φ) (fun A' Φ' β' a' w' q s le => ⟨A', Φ', β', q, s, le⟩) l.length (Array.replicate l.length false) Φ β a { w with drawn := w.drawn + 1 } ?_ (by simp) (fun y o hy hL => ?_) (fun j _ hj => by simp [hj]) Φ.le_refl ?_
  · have : un (fun j => (Array.replicate l.length false).getD j true) l.length = un (fun j => decide (j < 0)) l.length := un_congr _ fun j hj => by simp [hj]
    rw [this, un_lt _ (Nat.zero_le _)]; omega
  · have : (Array.replicate l.length false).getD y false = true := hL
    rw [Array.getD_eq_getD_getElem?, Array.getElem?_replicate] at this
    split at this <;> simp at this
  · have hnone : eL (fun j => (Array.replicate l.length false).getD j false) 0 vals env = env := by
      have : (fun j => (Array.replicate l.length false).getD j false) = fun _ => false := by
        funext j
        rw [Array.getD_eq_getD_getElem?, Array.getElem?_replicate]
        split <;> rfl
      rw [this, eL_none]
    rw [hnone]
    refine ⟨hs.kept.drew, hs.fits, hs.old, hs.siz, hs.dfr, hs.env, hs.blk, hs.vir, hs.inj⟩
theorem Lex.nil {tss : List (List Nat)} {env : Env} {K : Env → Prop} (h : K env) : Lex P G ops n bl [] tss env K := h
theorem Lex.u {d : Nat} {op : Op} {ty : TypeId} {pos : String} {after : Array Edge} {ts : List Nat} {tss : List (List Nat)} {rest : List Oper} {env : Env} {K : Env → Prop} {v : AV}
    (hp : PureOp P G (St.mk n (only ts env) bl) ⟨some d, op, ty, pos, after, none⟩ True v) (hn : Nat.blt d n = true) (h : Lex P G ops n bl rest tss ((d, (True, v)) :: env) K) : Lex P G ops n bl (⟨some d, op, ty, pos, after, none⟩ :: rest) (ts :: tss) env K :=
  ⟨d, True, v, rfl, blt_lt hn, GOk.none rfl, hp, h⟩
theorem Lex.g {d j t : Nat} {want b : Bool} {op : Op} {ty : TypeId} {pos : String} {after : Array Edge} {ts : List Nat} {tss : List (List Nat)} {rest : List Oper} {env : Env} {K : Env → Prop} {v : AV}
    (hj : (ops[j]?).bind (·.dst) = some t) (ht : lk (only ts env) t = some (True, .pv (.one (.bool b))))
    (hp : PureOp P G (St.mk n (only ts env) bl) ⟨some d, op, ty, pos, after, some (j, want)⟩ (b = want) v) (hn : Nat.blt d n = true) (h : Lex P G ops n bl rest tss ((d, (b = want, v)) :: env) K) : Lex P G ops n bl (⟨some d, op, ty, pos, after, some (j, want)⟩ :: rest) (ts :: tss) env K :=
  ⟨d, _, v, rfl, blt_lt hn, GOk.ifT rfl hj ht, hp, h⟩
theorem W.draw2 {id : Nat} {l : List Oper} {env : Env} {Q : Exit → St → Prop} (ms : List Nat) (tss : List (List Nat)) (m : Nat) (sg : List (Nat × Nat)) (hm : P.follows .mixedOrders = true) (hok : orderOk2 l ms tss m sg = true) (hml : Nat.ble m l.length = true) (hsg : Nat.beq sg.length m = true)
    (h : Lex P G l.toArray n bl (l.take m) tss env fun env' => RG P G l.toArray (l.drop m) (Q .normal) (St.mk n env' bl)) : W P G (.region id l.toArray true) Q (St.mk n env bl) := W.draw ms tss m hm (orderOk_of2 (Nat.eq_of_beq_eq_true hsg) hok) hml h
theorem Lex.gq {d j t : Nat} {want b : Bool} {q : Prop} {op : Op} {ty : TypeId} {pos : String} {after : Array Edge} {ts : List Nat} {tss : List (List Nat)} {rest : List Oper} {env : Env} {K : Env → Prop} {v : AV}
    (hj : (ops[j]?).bind (·.dst) = some t) (ht : lk (only ts env) t = some (q, .pv (.one (.bool b))))
    (hp : PureOp P G (St.mk n (only ts env) bl) ⟨some d, op, ty, pos, after, some (j, want)⟩ (q ∧ b = want) v) (hn : Nat.blt d n = true) (h : Lex P G ops n bl rest tss ((d, (q ∧ b = want, v)) :: env) K) : Lex P G ops n bl (⟨some d, op, ty, pos, after, some (j, want)⟩ :: rest) (ts :: tss) env K :=
  ⟨d, _, v, rfl, blt_lt hn, GOk.if rfl hj ht, hp, h⟩
end
end Lf
end
section
set_option linter.unusedVariables false
set_option linter.unusedSimpArgs false
set_option linter.unusedSectionVars false
namespace Lf
open Go Go.RowKit
def AV.ren (ρ : Nat → Nat) : AV → AV
  | .addr n i o => .addr (ρ n) i o
  | .slc n => .slc (ρ n)
  | .mp n => .mp (ρ n)
  | .mpn n b => .mpn (ρ n) b
  | .itr d n => .itr (ρ d) (ρ n)
  | .pin n b c f => .pin (ρ n) b c f
  | .pv p => .pv p
  | .tup l => .tup l
  | .top => .top
def AV.nameIn (bl : List (Nat × Blk)) : AV → Prop
  | .addr n _ _ => (lk bl n).isSome = true
  | .slc n => (lk bl n).isSome = true
  | .mp n => (lk bl n).isSome = true
  | .mpn n _ => (lk bl n).isSome = true
  | .itr d n => (lk bl d).isSome = true ∧ (lk bl n).isSome = true
  | .pin n _ _ _ => (lk bl n).isSome = true
  | _ => True
theorem Le.ren {A B : St} (ρ : Nat → Nat) (hn : B.n = A.n) (he : ∀ t q v, lk B.env t = some (q, v) → lk A.env t = some (q, v.ren ρ) ∧ v.nameIn B.blks) (hb : ∀ n C, lk B.blks n = some C → lk A.blks (ρ n) = some C)
    (hi : ∀ n n' C C', lk B.blks n = some C → lk B.blks n' = some C' → ρ n = ρ n' → n = n') : Le A B := fun G Φ β a w hs => by
  refine ⟨Φ, fun n => β (ρ n), Φ.le_refl, hs.kept, hs.fits, hs.old, by rw [hn]; exact hs.siz, hs.dfr, fun t q v h => ?_, fun n C b cap h1 h2 => hs.blk _ C b cap (hb n C h1) h2, fun n C h1 h2 => hs.vir _ C (hb n C h1) h2,
    fun n n' C C' b c c' h1 h2 h3 h4 => hi n n' C C' h1 h2 (hs.inj _ _ C C' b c c' (hb n C h1) (hb n' C' h2) h3 h4)⟩
  obtain ⟨h1, h2⟩ := he t q v h
  refine ⟨fun hq => ?_, (hs.env t q _ h1).2⟩
  have h3 := (hs.env t q _ h1).1 hq
  cases v with
  | pv p => exact h3
  | tup l => exact h3
  | top => trivial
  | addr n i o =>
    obtain ⟨b, cap, C, g1, g2, g3⟩ := h3
    obtain ⟨D, hD⟩ := Option.isSome_iff_exists.1 h2
    have := hb n D hD
    rw [this] at g2
    obtain rfl := Option.some.inj g2
    exact ⟨b, cap, D, g1, hD, g3⟩
  | slc n =>
    obtain ⟨C, g2, g3⟩ := h3
    obtain ⟨D, hD⟩ := Option.isSome_iff_exists.1 h2
    have := hb n D hD
    rw [this] at g2
    obtain rfl := Option.some.inj g2
    exact ⟨D, hD, g3⟩
  | mp n =>
    obtain ⟨b, cap, C, g1, g2, g3⟩ := h3
    obtain ⟨D, hD⟩ := Option.isSome_iff_exists.1 h2
    have := hb n D hD
    rw [this] at g2
    obtain rfl := Option.some.inj g2
    exact ⟨b, cap, D, g1, hD, g3⟩
  | mpn n bb =>
    obtain ⟨b, cap, C, g1, g2, g3⟩ := h3
    obtain ⟨D, hD⟩ := Option.isSome_iff_exists.1 h2
    have := hb n D hD
    rw [this] at g2
    obtain rfl := Option.some.inj g2
    exact ⟨b, cap, D, g1, hD, g3⟩
  | itr d n =>
    obtain ⟨b, cap, C, M, c, g1, g2, g3, g4, g5, g6⟩ := h3
    obtain ⟨D, hD⟩ := Option.isSome_iff_exists.1 h2.1
    obtain ⟨E, hE⟩ := Option.isSome_iff_exists.1 h2.2
    have e1 := hb d D hD
    rw [e1] at g2
    obtain rfl := Option.some.inj g2
    have e2 := hb n E hE
    rw [e2] at g5
    obtain rfl := Option.some.inj g5
    exact ⟨b, cap, D, E, c, g1, hD, g3, g4, hE, g6⟩
  | pin n b0 c0 f =>
    obtain ⟨C, g1, g2, g3⟩ := h3
    obtain ⟨D, hD⟩ := Option.isSome_iff_exists.1 h2
    have := hb n D hD
    rw [this] at g2
    obtain rfl := Option.some.inj g2
    exact ⟨D, g1, hD, g3⟩
def renF (l : List (Nat × Nat)) (n : Nat) : Nat := (lk l n).getD n
def renOf (A : St) : List (Nat × (Prop × AV)) → List (Nat × Nat)
  | [] => []
  | (t, (_, v)) :: r => match v, lk A.env t with
    | .slc n, some (_, .slc m) => (n, m) :: renOf A r
    | .mp n, some (_, .mp m) => (n, m) :: renOf A r
    | .mpn n _, some (_, .mpn m _) => (n, m) :: renOf A r
    | .itr d n, some (_, .itr e m) => (d, e) :: (n, m) :: renOf A r
    | .addr n _ _, some (_, .addr m _ _) => (n, m) :: renOf A r
    | .pin n _ _ _, some (_, .pin m _ _ _) => (n, m) :: renOf A r
    | _, _ => renOf A r
def SubR (A : St) (ρ : List (Nat × Nat)) (bl' : List (Nat × Blk)) : List (Nat × (Prop × AV)) → Prop
  | [] => True
  | (t, (q, v)) :: r => (lk A.env t = some (q, v.ren (renF ρ)) ∧ v.nameIn bl') ∧ SubR A ρ bl' r
def SubBR (A : St) (ρ : List (Nat × Nat)) : List (Nat × Blk) → Prop
  | [] => True
  | (n, B) :: r => lk A.blks (renF ρ n) = some B ∧ SubBR A ρ r
theorem SubR.nil {A : St} {ρ : List (Nat × Nat)} {bl : List (Nat × Blk)} : SubR A ρ bl [] := trivial
theorem SubR.p {A : St} {ρ : List (Nat × Nat)} {bl : List (Nat × Blk)} {t : Nat} {q : Prop} {p p' : PV} {r : List (Nat × (Prop × AV))} (h : lk A.env t = some (q, .pv p')) (hv : AV.pv p' = AV.pv p) (hr : SubR A ρ bl r) : SubR A ρ bl ((t, (q, .pv p)) :: r) :=
  ⟨⟨by rw [h, hv]; rfl, trivial⟩, hr⟩
theorem SubR.s {A : St} {ρ : List (Nat × Nat)} {bl : List (Nat × Blk)} {t n m : Nat} {q : Prop} {r : List (Nat × (Prop × AV))} (h : lk A.env t = some (q, .slc m)) (hm : renF ρ n = m) (hn : (lk bl n).isSome = true) (hr : SubR A ρ bl r) : SubR A ρ bl ((t, (q, .slc n)) :: r) :=
  ⟨⟨by rw [h, ← hm]; rfl, hn⟩, hr⟩
theorem SubR.a {A : St} {ρ : List (Nat × Nat)} {bl : List (Nat × Blk)} {t n m i o : Nat} {q : Prop} {r : List (Nat × (Prop × AV))} (h : lk A.env t = some (q, .addr m i o)) (hm : renF ρ n = m) (hn : (lk bl n).isSome = true) (hr : SubR A ρ bl r) : SubR A ρ bl ((t, (q, .addr n i o)) :: r) :=
  ⟨⟨by rw [h, ← hm]; rfl, hn⟩, hr⟩
theorem SubR.k {A : St} {ρ : List (Nat × Nat)} {bl : List (Nat × Blk)} {t n m b c : Nat} {f : Nat → Value} {q : Prop} {r : List (Nat × (Prop × AV))} (h : lk A.env t = some (q, .pin m b c f)) (hm : renF ρ n = m) (hn : (lk bl n).isSome = true) (hr : SubR A ρ bl r) : SubR A ρ bl ((t, (q, .pin n b c f)) :: r) :=
  ⟨⟨by rw [h, ← hm]; rfl, hn⟩, hr⟩
theorem SubBR.nil {A : St} {ρ : List (Nat × Nat)} : SubBR A ρ [] := trivial
theorem SubBR.cons {A : St} {ρ : List (Nat × Nat)} {n : Nat} {B B' : Blk} {r : List (Nat × Blk)} (h : lk A.blks (renF ρ n) = some B') (hv : B' = B) (hr : SubBR A ρ r) : SubBR A ρ ((n, B) :: r) := ⟨hv ▸ h, hr⟩
theorem SubR.append {A : St} {ρ : List (Nat × Nat)} {bl : List (Nat × Blk)} : ∀ {l m : List (Nat × (Prop × AV))}, SubR A ρ bl l → SubR A ρ bl m → SubR A ρ bl (l ++ m)
  | [], _, _, h => h
  | _ :: _, _, ⟨h1, h2⟩, h => ⟨h1, SubR.append h2 h⟩
theorem SubR.get {A : St} {ρ : List (Nat × Nat)} {bl : List (Nat × Blk)} : ∀ {env : List (Nat × (Prop × AV))}, SubR A ρ bl env → ∀ {t q v}, lk env t = some (q, v) → lk A.env t = some (q, v.ren (renF ρ)) ∧ v.nameIn bl
  | [], _, t, q, v, h => by simp [lk] at h
  | (s, (q0, v0)) :: r, hs, t, q, v, h => by
    rw [lk_cons] at h
    split at h
    · rename_i e; subst e
      simp only [Option.some.injEq, Prod.mk.injEq] at h
      obtain ⟨rfl, rfl⟩ := h
      exact hs.1
    · exact SubR.get hs.2 h
theorem SubBR.get {A : St} {ρ : List (Nat × Nat)} : ∀ {bl : List (Nat × Blk)}, SubBR A ρ bl → ∀ {n C}, lk bl n = some C → lk A.blks (renF ρ n) = some C
  | [], _, n, C, h => by simp [lk] at h
  | (s, B) :: r, hs, n, C, h => by
    rw [lk_cons] at h
    split at h
    · rename_i e; subst e
      obtain rfl := Option.some.inj h
      exact hs.1
    · exact SubBR.get hs.2 h
def injOn (ρ : List (Nat × Nat)) (bl : List (Nat × Blk)) : Bool := bl.all fun a => bl.all fun b => !(Nat.beq (renF ρ a.1) (renF ρ b.1)) || Nat.beq a.1 b.1
theorem lk_mem {α : Type _} : ∀ {l : List (Nat × α)} {n : Nat} {x : α}, lk l n = some x → (n, x) ∈ l
  | [], n, x, h => by simp [lk] at h
  | (s, y) :: r, n, x, h => by
    rw [lk_cons] at h
    split at h
    · rename_i e; subst e
      obtain rfl := Option.some.inj h
      exact List.mem_cons_self ..
    · exact List.mem_cons_of_mem _ (lk_mem h)
theorem Le.mkR {A : St} {n : Nat} {f E : List (Nat × (Prop × AV))} {bl : List (Nat × Blk)} {ρ : List (Nat × Nat)} (hρ : renOf A f = ρ) (hn : n = A.n) (hf : SubR A ρ bl f) (hE : SubR A ρ bl E) (hb : SubBR A ρ bl) (hi : injOn ρ bl = true) : Le A (Lf.mkSt n f E bl) := by
  refine Le.ren (renF ρ) hn (fun t q v h => (hf.append hE).get h) (fun n C h => hb.get h) fun a b C C' h1 h2 h3 => ?_
  have := List.all_eq_true.1 (List.all_eq_true.1 hi _ (lk_mem h1)) _ (lk_mem h2)
  simp [h3] at this
  exact this
section
variable {P : Program} {T : Nat → Option TI} (hT : TOK P T)
include hT
variable {G : Ghost} {ops : Array Oper} {rest : List Oper} {Q : St → Prop} {n0 : Nat} {env : List (Nat × (Prop × AV))} {bl : List (Nat × Blk)} {p : Prop}
variable {dst : Option Nat} {ty : TypeId} {pos : String} {after : Array Edge} {gd : Option (Nat × Bool)}
/-- the length of an encoded list -/
theorem Q_lenm {α : Type} {t e : Nat} {x : Operand} {ti : TI} {l : List α} {f : α → List Cell} (hx : Ev (St.mk n0 env bl) p x (.pv (.one (.sl (l.map f))))) (ht : T t = some ti) (hk : ti.kind = .slice e) :
    PureOp P G (St.mk n0 env bl) ⟨dst, .call ⟨.builtin .len, #[x], #[t]⟩, ty, pos, after, gd⟩ p (.pv (.one (.int .i64 l.length))) := by
  have h := Q_lend (G := G) (dst := dst) (ty := ty) (pos := pos) (after := after) (gd := gd) hT hx ht hk
  rw [List.length_map] at h; exact h
theorem Q_lenom {α : Type} {t e n E sz : Nat} {x : Operand} {ti : TI} {l : List α} {f : α → List Cell} (hx : Ev (St.mk n0 env bl) p x (.slc n)) (ht : T t = some ti) (hk : ti.kind = .slice e) (hl : lk bl n = some ⟨E, sz, l.map f⟩) :
    PureOp P G (St.mk n0 env bl) ⟨dst, .call ⟨.builtin .len, #[x], #[t]⟩, ty, pos, after, gd⟩ p (.pv (.one (.int .i64 l.length))) := by
  have h := Q_len (G := G) (dst := dst) (ty := ty) (pos := pos) (after := after) (gd := gd) hT hx ht hk hl
  simp only [List.length_map] at h; exact h
theorem Q_binB {op : BinOp} {xt yt : Nat} {x y : Operand} {ti : TI} {l m : Bool} {c : Cell} (hx : Ev (St.mk n0 env bl) p x (.pv (.one (.bool l)))) (hy : Ev (St.mk n0 env bl) p y (.pv (.one (.bool m)))) (ht : T xt = some ti) (hk : ti.kind = .bool) (hr : binB op l m = some c) :
    PureOp P G (St.mk n0 env bl) ⟨dst, .binOp op xt x y yt, ty, pos, after, gd⟩ p (.pv (.one c)) := P_binB rfl hx hy (by have := (hT _ _ ht).kind; rw [hk] at this; exact this) hr
/-- a load from a block that encodes a list -/
theorem Q_loadm {α : Type} {t n i off E sz : Nat} {x : Operand} {ti : TI} {l : List α} {f : α → List Cell} {c : Cell} (ht : T t = some ti) (hb : ti.kind.isAgg = some false) (hx : Ev (St.mk n0 env bl) p x (.addr n i off))
    (hl : lk bl n = some ⟨E, sz, l.map f⟩) (I : Inhabited α) (hi : p → i < l.length) (hc : (f (nth l i))[off]? = some c) : PureOp P G (St.mk n0 env bl) ⟨dst, .load t x, ty, pos, after, gd⟩ p (.pv (.one c)) :=
  P_load_own hT rfl ht hb hx hl (r := f (nth l i)) (fun hp => by have := hi hp; simp [List.getElem?_eq_getElem this, nth, List.getD]) (fun _ => hc)
/-- a store of a whole row into a block that encodes a list -/
theorem S_storem {α : Type} {t n i E sz : Nat} {x y : Operand} {ti : TI} {l : List α} {f : α → List Cell} {v : α} {q : PV} (hx : Ev (St.mk n0 env bl) True x (.addr n i 0)) (hy : Ev (St.mk n0 env bl) True y (.pv q)) (ht : T t = some ti)
    (hl : lk bl n = some ⟨E, sz, l.map f⟩) (hi : i < l.length) (hq : q.cells = f v) (hf : ∀ z, (f z).length = ti.sz)
    (h : RG P G ops rest Q (St.mk n0 env ((n, ⟨E, sz, (l.set i v).map f⟩) :: bl))) :
    RG P G ops (⟨none, .store t x y, ty, pos, after, none⟩ :: rest) Q (St.mk n0 env bl) := by
  have hr : (l.map f)[i]? = some (f l[i]) := by simp [List.getElem?_eq_getElem hi]
  refine RG.eff rfl (E_store hT rfl rfl ht hx hy hl hr (by rw [hq, hf]) (by rw [hf]; omega)) ?_
  have e : splice (f l[i]) 0 q.cells = f v := by
    rw [hq]; unfold splice; rw [hf, List.drop_eq_nil_of_le (by rw [hf]; omega)]; simp
  simp only [e, ← List.map_set]
  exact h
end
/-- a guard whose value is known -/
theorem RG.gT {P : Program} {G : Ghost} {ops : Array Oper} {rest : List Oper} {Q : St → Prop} {A : St} {o : Option Nat} {op : Op} {ty : TypeId} {pos : String} {after : Array Edge} {j t : Nat} {want b : Bool}
    (hj : (ops[j]?).bind (·.dst) = some t) (ht : lk A.env t = some (True, .pv (.one (.bool b)))) (hb : b = want) (h : RG P G ops (⟨o, op, ty, pos, after, none⟩ :: rest) Q A) : RG P G ops (⟨o, op, ty, pos, after, some (j, want)⟩ :: rest) Q A := fun Φ β a w hs Q' hq => by
  have h1 := h Φ β a w hs Q' hq
  have hw := (GOk.ifT (o := ⟨o, op, ty, pos, after, some (j, want)⟩) rfl hj ht G Φ β a w hs).2 hb
  unfold wpList at h1 ⊢
  rw [if_pos hw]
  rw [if_pos (by simp [Region.wanted])] at h1
  exact h1
theorem RG.gF {P : Program} {G : Ghost} {ops : Array Oper} {rest : List Oper} {Q : St → Prop} {A : St} {d : Nat} {op : Op} {ty : TypeId} {pos : String} {after : Array Edge} {j t : Nat} {want b : Bool}
    (hj : (ops[j]?).bind (·.dst) = some t) (ht : lk A.env t = some (True, .pv (.one (.bool b)))) (hb : b ≠ want) (hn : Nat.blt d A.n = true) (h : RG P G ops rest Q (A.set d False .top)) : RG P G ops (⟨some d, op, ty, pos, after, some (j, want)⟩ :: rest) Q A :=
  RG.pure (GOk.ifT rfl hj ht) (fun Φ β a w hs hp => (hb hp).elim) rfl (blt_lt hn) (fun Φ β a w hs Q' hq => h Φ β a w ⟨hs.kept, hs.fits, hs.old, hs.siz, hs.dfr, fun s q v hl => by
    have hl' := hl
    simp only [St.set] at hl
    rw [lk_cons] at hl
    split at hl
    · rename_i e; subst e
      simp only [Option.some.injEq, Prod.mk.injEq] at hl
      obtain ⟨rfl, rfl⟩ := hl
      refine ⟨fun hx => hx.elim, fun _ => ?_⟩
      exact (hs.env d (b = want) .top (by simp only [St.set]; rw [lk_cons, if_pos rfl])).2 hb
    · rename_i e
      exact hs.env s q v (by simp only [St.set]; rw [lk_cons, if_neg e]; exact hl), hs.blk, hs.vir, hs.inj⟩ Q' hq)
theorem nth_eq {α : Type} [Inhabited α] {l : List α} {k : Nat} (h : k < l.length) : nth l k = l[k] := by simp [nth, List.getD, List.getElem?_eq_getElem h]
theorem take_nth {α : Type} [Inhabited α] {l : List α} {k : Nat} (h : k < l.length) : l.take (k + 1) = l.take k ++ [nth l k] := by
  rw [List.take_add_one, List.getElem?_eq_getElem h, nth_eq h]; rfl
theorem PSub.of_eq {a b : PV} (h : a = b) : PSub a b := h ▸ PSub.refl a
end Lf
end
section
set_option linter.unusedVariables false
set_option linter.unusedSimpArgs false
set_option linter.unusedSectionVars false
namespace Lf
open Go Go.RowKit
section
variable {P : Program} {G : Ghost} {A : St} {a : Act} {w : World}
theorem callv_run {f : FuncId} {x : Operand} {vs : Array Value} {xs : List Operand} {ats : Array TypeId} {o : Oper} (ho : o.op = .call { callee := .value x, args := xs.toArray, argTypes := ats }) (hv : a.eval x = .func (.func f) #[] vs) (hf : FnOK P f) :
    (execOp a.eval o).run P w = .ok (.enter f ((xs.map a.eval).toArray ++ vs)) w := by
  obtain ⟨fn, h1, h2, h3⟩ := hf
  have e : execOp a.eval o = (do let d ← resolve a.eval { callee := .value x, args := xs.toArray, argTypes := ats } o.type; invoke d.target d.args) := by simp only [execOp, ho]
  rw [e]
  have h2' : ¬ fn.name = "runtime.NumGoroutine" := by simpa using h2
  have h3' : ¬ fn.body = none := by intro hx; rw [hx] at h3; cases h3
  simp only [resolve, hv, Deferred.ofValue, pure_bind, invoke, callFunc]
  simp [h1, h2', h3']
theorem rel_fn {Φ : Frz} {v : Value} {f : Nat} {caps : List Cell} (h : Rel Φ v (.fn f caps)) : ∃ vs : Array Value, v = .func (.func f) #[] vs ∧ vs.size = caps.length ∧ ∀ (j : Nat) (c : Cell), caps[j]? = some c → ∃ u, vs[j]? = some u ∧ Rel Φ u c := by
  cases h with
  | fn f caps vs g hlen hc hr => exact ⟨vs, rfl, hlen, fun j c hj => ⟨g j, hc j c hj, hr j c hj⟩⟩
theorem args_more {Φ : Frz} {vs us : Array Value} {ps : List PV} {caps : List Cell} (h : vs.size = ps.length) (h1 : ∀ (j : Nat) (p : PV), ps[j]? = some p → ∃ v, vs[j]? = some v ∧ PRel Φ v p) (hl : us.size = caps.length) (h2 : ∀ (j : Nat) (c : Cell), caps[j]? = some c → ∃ u, us[j]? = some u ∧ Rel Φ u c) :
    ArgsRel Φ (vs ++ us) (ps ++ caps.map PV.one) := by
  refine ⟨by simp [h, hl], fun j p hj => ?_⟩
  rw [List.getElem?_append] at hj
  split at hj
  · rename_i hlt
    obtain ⟨v, g1, g2⟩ := h1 j p hj
    exact ⟨v, by rw [Array.getElem?_append, if_pos (by omega)]; exact g1, g2⟩
  · rename_i hge
    rw [List.getElem?_map] at hj
    cases hc : caps[j - ps.length]? with
    | none => rw [hc] at hj; cases hj
    | some c =>
      rw [hc] at hj
      obtain rfl : PV.one c = p := by simpa using hj
      obtain ⟨u, g1, g2⟩ := h2 _ c hc
      exact ⟨u, by rw [Array.getElem?_append, if_neg (by omega), h]; exact g1, g2⟩
theorem P_callvd {o : Oper} {p : Prop} {f : FuncId} {x : Operand} {caps : List Cell} {xs : List Operand} {ats : Array TypeId} {ps : List PV} {r : AV} (ho : o.op = .call { callee := .value x, args := xs.toArray, argTypes := ats })
    (hc0 : Ev A p x (.pv (.one (.fn f caps)))) (hx : EvD A p xs ps) (hf : FnOK P f) (hc : p → ACalls P f (ps ++ caps.map PV.one) r) : PureOp P G A o p r := fun Φ β a w hs hp => by
  obtain ⟨us, e1, e2, e3⟩ := rel_fn (hs.ev hc0 hp)
  unfold Oper.wp
  rw [callv_run ho e1 hf]
  refine Calls.mono ((hc hp).calls Φ w _ hs.fits (args_more (by simp [evd_len hx]) (fun j q hq => ?_) e2 e3)) ?_
  · obtain ⟨x, h1, h2⟩ := evd_args hs hp hx j q hq
    exact ⟨a.eval x, by simp [h1], h2⟩
  · rintro e w' ⟨v, Φ', rfl, hv, hle, heq, hfit, hb⟩
    exact ⟨v, Φ', rfl, hv.ret, hle, heq, hfit, hb⟩
end
section
variable {P : Program} {G : Ghost} {n0 : Nat} {env : List (Nat × (Prop × AV))} {bl : List (Nat × Blk)} {p : Prop} {dst : Option Nat} {ty : TypeId} {pos : String} {after : Array Edge} {gd : Option (Nat × Bool)}
theorem Q_callvd {f : FuncId} {x : Operand} {caps : List Cell} {xs : List Operand} {ats : Array TypeId} {ps : List PV} {r : AV} (hc0 : Ev (St.mk n0 env bl) p x (.pv (.one (.fn f caps)))) (hx : EvD (St.mk n0 env bl) p xs ps) (hf : FnOK P f)
    (hc : p → ACalls P f (ps ++ caps.map PV.one) r) : PureOp P G (St.mk n0 env bl) ⟨dst, .call ⟨.value x, xs.toArray, ats⟩, ty, pos, after, gd⟩ p r := P_callvd rfl hc0 hx hf hc
end
end Lf
end
section
set_option linter.unusedVariables false
set_option linter.unusedSimpArgs false
set_option linter.unusedSectionVars false
namespace Lf
open Go Go.RowKit
open Go.ChangeMaps (setBlock)
open Go.MapKept (IsKey sameNow_of_keys run_checkKey run_findKey run_keyThatStays run_getObj_map run_setObj_map)
section
variable {P : Program} {G : Ghost} {A : St}
def EffF (P : Program) (G : Ghost) (A : St) (o : Oper) {σ : Type _} (F : σ → St) : Prop :=
  ∀ Φ β a w, Sat G Φ β A a w → o.wp P a w (fun a' w' => ∃ s Φ' β', Sat G Φ' β' (F s) a' w' ∧ Φ.le Φ') (fun _ _ _ => False)
theorem RG.effF {σ : Type _} {ops : Array Oper} {o : Oper} {rest : List Oper} {Q : St → Prop} {F : σ → St} (hg : o.guard = none) (hp : EffF P G A o F) (h : ∀ s, RG P G ops rest Q (F s)) : RG P G ops (o :: rest) Q A := fun Φ β a w hs Q' hq => by
  refine wpList_plain hg fun K hK => Oper.wp_mono' (hp Φ β a w hs) (fun a' w' ⟨s, Φ', β', hs', hle⟩ => hK _ _ ?_) (fun _ _ _ h => h.elim)
  exact h s Φ' β' a' w' hs' Q' fun A1 Φ1 β1 a1 w1 q s l => hq A1 Φ1 β1 a1 w1 q s (Frz.le_trans hle l)
theorem EffF.of_val {o : Oper} {σ : Type _} {F : σ → St} (h : ∀ Φ β a w, Sat G Φ β A a w → ∃ u w' s Φ' β', (execOp a.eval o).run P w = .ok (.value u) w' ∧ Sat G Φ' β' (F s) (a.put o.dst u) w' ∧ Φ.le Φ') : EffF P G A o F := fun Φ β a w hs => by
  obtain ⟨u, w', s, Φ', β', h1, h2, h3⟩ := h Φ β a w hs
  unfold Oper.wp
  rw [h1]
  exact ⟨s, Φ', β', h2, h3⟩
end
section
variable {P : Program} {G : Ghost} {A : St} {Φ : Frz} {β : Own} {a : Act} {w w' : World}
/-- The object of a name (a map, an iterator) is turned. -/
theorem Sat.turnO (hs : Sat G Φ β A a w) {n b cap : Nat} {B B' : Blk} (h1 : lk A.blks n = some B) (h2 : β n = some (b, cap)) (hob : B.ob = true) (hE : B'.E = B.E) (hz : B'.sz = B.sz)
    (hlen : B.E = mapTag → B'.rows.length = B.rows.length ∨ ∀ t q d, lk A.env t ≠ some (q, .itr d n)) (hg : w.grownBy w' (some b)) (hB : BlkRel Φ w' b cap B') :
    Sat G Φ β { A with blks := (n, B') :: A.blks } a w' := by
  obtain ⟨gB, gK, gP⟩ := hs.blk n B b cap h1 h2
  have hl : ∀ m, m ≠ n → lk ((n, B') :: A.blks) m = lk A.blks m := fun m hm => by rw [lk_cons, if_neg (Ne.symm hm)]
  have hl0 : lk ((n, B') :: A.blks) n = some B' := by rw [lk_cons, if_pos rfl]
  have hne : ∀ k, k ≠ b → some k ≠ some b := fun k h e => h (Option.some.inj e)
  refine ⟨⟨hg.os.trans hs.kept.os, hg.tape.trans hs.kept.tape, hg.output.trans hs.kept.output, Nat.le_trans hs.kept.size hg.size, fun k hk => ?_⟩, fun k c hk => ?_, hs.old, hs.siz, hs.dfr, fun t q v h => ?_, fun m C b' cap' k1 k2 => ?_, fun m C k1 k2 => ?_, fun m m' B1 B2 b' c1 c2 k1 k2 k3 k4 => ?_⟩
  · rw [hg.block k (Nat.lt_of_lt_of_le (G.lt k hk) hs.kept.size) (fun e => gK ((Option.some.inj e) ▸ hk))]; exact hs.kept.block k hk
  · obtain ⟨E, fz, h⟩ := hs.fits k c hk
    exact ⟨E, fz, by rw [hg.block k (Array.getElem?_eq_some_iff.1 h).1 (fun e => by have := Option.some.inj e; subst this; rw [gP] at hk; cases hk)]; exact h⟩
  · refine ⟨fun hq => ?_, (hs.env t q v h).2⟩
    have h3 := (hs.env t q v h).1 hq
    cases v with
    | pv p => exact h3
    | tup l => exact h3
    | top => trivial
    | addr m i off =>
      obtain ⟨b', cap', C, k1, k2, k3, k4⟩ := h3
      have e : m ≠ n := fun e => by
        subst e; rw [h1] at k2; obtain rfl := Option.some.inj k2; rw [k3] at hob; cases hob
      exact ⟨b', cap', C, k1, by rw [hl m e]; exact k2, k3, k4⟩
    | pin m b0 c0 f =>
      obtain ⟨C, k1, k2, k3, k4⟩ := h3
      have e : m ≠ n := fun e => by
        subst e; rw [h1] at k2; obtain rfl := Option.some.inj k2; rw [k3] at hob; cases hob
      exact ⟨C, k1, by rw [hl m e]; exact k2, k3, k4⟩
    | slc m =>
      obtain ⟨C, k2, k3, k4⟩ := h3
      have e : m ≠ n := fun e => by
        subst e; rw [h1] at k2; obtain rfl := Option.some.inj k2; rw [k3] at hob; cases hob
      exact ⟨C, by rw [hl m e]; exact k2, k3, k4⟩
    | mp m =>
      obtain ⟨b', cap', C, k1, k2, k3, k4⟩ := h3
      by_cases e : m = n
      · subst e
        rw [h1] at k2; obtain rfl := Option.some.inj k2
        exact ⟨b', cap', B', k1, hl0, hE.trans k3, k4⟩
      · exact ⟨b', cap', C, k1, by rw [hl m e]; exact k2, k3, k4⟩
    | mpn m bb =>
      obtain ⟨b', cap', C, k1, k2, k3, k4⟩ := h3
      by_cases e : m = n
      · subst e
        rw [h1] at k2; obtain rfl := Option.some.inj k2
        exact ⟨b', cap', B', k1, hl0, hE.trans k3, k4⟩
      · exact ⟨b', cap', C, k1, by rw [hl m e]; exact k2, k3, k4⟩
    | itr d m =>
      obtain ⟨b', cap', C, M, c, k1, k2, k3, k4, k5, k6, k7, k8⟩ := h3
      have hC : ∃ C', lk ((n, B') :: A.blks) d = some C' ∧ C'.E = C.E ∧ C'.sz = C.sz := by
        by_cases e : d = n
        · subst e
          rw [h1] at k2; obtain rfl := Option.some.inj k2
          exact ⟨B', hl0, hE, hz⟩
        · exact ⟨C, by rw [hl d e]; exact k2, rfl, rfl⟩
      have hM : ∃ M', lk ((n, B') :: A.blks) m = some M' ∧ M'.E = M.E ∧ M'.rows.length = M.rows.length := by
        by_cases e : m = n
        · subst e
          rw [h1] at k5; obtain rfl := Option.some.inj k5
          rcases hlen k6 with hx | hx
          · exact ⟨B', hl0, hE, hx⟩
          · exact (hx t q d h).elim
        · exact ⟨M, by rw [hl m e]; exact k5, rfl, rfl⟩
      obtain ⟨C', c1, c2, c3⟩ := hC
      obtain ⟨M', m1, m2, m3⟩ := hM
      exact ⟨b', cap', C', M', c, k1, c1, c2.trans k3, by rw [c3]; exact k4, m1, m2.trans k6, m3.trans k7, k8⟩
  · by_cases e : m = n
    · subst e
      rw [hl0] at k1; obtain rfl := Option.some.inj k1
      rw [h2] at k2
      simp only [Option.some.injEq, Prod.mk.injEq] at k2
      obtain ⟨rfl, rfl⟩ := k2
      exact ⟨hB, gK, gP⟩
    · rw [hl m e] at k1
      obtain ⟨g1, g2, g3⟩ := hs.blk m C b' cap' k1 k2
      exact ⟨g1.keep Φ.le_refl (hg.block b' g1.lt (fun e2 => e (hs.inj m n C B b' cap' cap k1 h1 k2 (by rw [Option.some.inj e2]; exact h2)))), g2, g3⟩
  · by_cases e : m = n
    · subst e; rw [h2] at k2; cases k2
    · rw [hl m e] at k1; exact hs.vir m C k1 k2
  · have hx : ∀ m C, lk ((n, B') :: A.blks) m = some C → ∃ C', lk A.blks m = some C' := fun m C h => by
      by_cases e : m = n
      · subst e; exact ⟨B, h1⟩
      · rw [hl m e] at h; exact ⟨C, h⟩
    obtain ⟨C1, x1⟩ := hx m B1 k1
    obtain ⟨C2, x2⟩ := hx m' B2 k2
    exact hs.inj m m' C1 C2 b' c1 c2 x1 x2 k3 k4
def mput {α γ : Type} [DecidableEq α] : List (α × γ) → α → γ → List (α × γ)
  | [], k, v => [(k, v)]
  | (a, x) :: r, k, v => if a = k then (k, v) :: r else (a, x) :: mput r k v
def mget {α γ : Type} [DecidableEq α] : List (α × γ) → α → Option γ
  | [], _ => none
  | (a, x) :: r, k => if a = k then some x else mget r k
/-- Keys of one kind. -/
structure KeyK (P : Program) (kt : TypeId) {α : Type} [DecidableEq α] (kc : α → Cell) : Prop where
  und : ∃ d, P.underlying kt = some d ∧ ∀ (Φ : Frz) (v : Value) (a : α), Rel Φ v (kc a) → IsKey d v
  eq : ∀ (Φ : Frz) (u v : Value) (a b : α), Rel Φ u (kc a) → Rel Φ v (kc b) → (u = v ↔ a = b)
abbrev kI (n : Int) : Cell := .int .i64 n
theorem KeyK.int {P : Program} {kt : TypeId} (h : P.underlying kt = some (.int .i64)) : KeyK P kt kI where
  und := ⟨_, h, fun Φ v a h1 => by cases h1; rfl⟩
  eq := fun Φ u v a b h1 h2 => by cases h1; cases h2; simp
variable {α γ : Type} [DecidableEq α] {kc : α → Cell} {kt : TypeId}
/-- the rows of a map -/
def mrow (kc : α → Cell) (vc : γ → List Cell) (p : α × γ) : List Cell := kc p.1 :: vc p.2
def EntL (Φ : Frz) (kc : α → Cell) : List MapEntry → List (α × γ) → Prop
  | [], [] => True
  | e :: es, p :: M => Rel Φ e.key (kc p.1) ∧ EntL Φ kc es M
  | _, _ => False
theorem find_map (K : KeyK P kt kc) {v : Value} {k : α} (hv : Rel Φ v (kc k)) (y : γ) {d : TypeDesc} (hd : ∀ (u : Value) (b : α), Rel Φ u (kc b) → IsKey d u) : ∀ (es : List MapEntry) (M : List (α × γ)) (i : Nat), EntL Φ kc es M →
    (∃ j e x, Instr.findNow d v es i = some (some (i + j, e.val)) ∧ es[j]? = some e ∧ e.key = v ∧ M[j]? = some (k, x) ∧ mput M k y = M.set j (k, y) ∧ mget M k = some x) ∨ (Instr.findNow d v es i = some none ∧ mput M k y = M ++ [(k, y)] ∧ mget M k = none)
  | [], [], i, _ => .inr ⟨rfl, rfl, rfl⟩
  | e :: es, (a, x) :: M, i, ⟨h1, h2⟩ => by
    obtain ⟨r, hr, hiff⟩ := sameNow_of_keys (hd v k hv) (hd e.key a h1)
    have hea := K.eq Φ v e.key k a hv h1
    simp only [Instr.findNow, hr]
    by_cases he : k = a
    · subst he
      have hve := hea.2 rfl
      have : r = true := hiff.2 hve
      subst this
      exact .inl ⟨0, e, x, by simp, rfl, hve.symm, rfl, by simp [mput], by simp [mget]⟩
    · have he' : ¬ a = k := fun h => he h.symm
      have : r = false := by
        cases r with
        | false => rfl
        | true => exact (he (hea.1 (hiff.1 rfl))).elim
      subst this
      simp only [mput, mget, if_neg he']
      rcases find_map K hv y hd es M (i + 1) h2 with ⟨j, e', x', g1, g2, gk, g3, g4, g5⟩ | ⟨g1, g2, g3⟩
      · exact .inl ⟨j + 1, e', x', by rw [g1]; congr 3; omega, by simpa using g2, gk, by simpa using g3, by simp [g4], g5⟩
      · exact .inr ⟨g1, by simp [g2], g3⟩
/-- what a map's block says -/
structure MapAt (Φ : Frz) (w : World) (b z : Nat) (kc : α → Cell) (vc : γ → List Cell) (M : List (α × γ)) (es : Array MapEntry) : Prop where
  heap : w.heap[b]? = some (.map es es.size)
  size : es.size = M.length
  ent : ∀ (i : Nat) (e : MapEntry) (p : α × γ), es[i]? = some e → M[i]? = some p → e.born = i ∧ Rel Φ e.key (kc p.1) ∧ PRel Φ e.val (mapPV z (vc p.2))
theorem map_ob {z : Nat} {rows : List (List Cell)} : Blk.ob ⟨mapTag, z, rows⟩ = true := ob_map rfl
theorem tags : mapTag ≠ iterTag := by decide
theorem MapAt.of {vc : γ → List Cell} {b cap z : Nat} {M : List (α × γ)} (h : BlkRel Φ w b cap ⟨mapTag, z, M.map (mrow kc vc)⟩) : ∃ es, MapAt Φ w b z kc vc M es := by
  rcases h.obj map_ob with ⟨_, es, h1, h2, h3⟩ | ⟨h, _⟩
  · refine ⟨es, h1, by simpa using h2, fun i e p a b => ?_⟩
    obtain ⟨g1, k, vs, g2, g3, g4⟩ := h3 i e (mrow kc vc p) a (by simp [b])
    unfold mrow at g2
    injection g2 with e1 e2
    subst e1 e2
    exact ⟨g1, g3, g4⟩
  · exact absurd h tags
theorem MapAt.blk {vc : γ → List Cell} {b cap z : Nat} {M : List (α × γ)} {es : Array MapEntry} (h : MapAt Φ w b z kc vc M es) : BlkRel Φ w b cap ⟨mapTag, z, M.map (mrow kc vc)⟩ := by
  refine .inr ⟨map_ob, .inl ⟨rfl, es, h.heap, by simpa using h.size, fun i e r a b => ?_⟩⟩
  simp only [List.getElem?_map, Option.map_eq_some_iff] at b
  obtain ⟨p, hp, rfl⟩ := b
  obtain ⟨g1, g2, g3⟩ := h.ent i e p a hp
  exact ⟨g1, _, _, rfl, g2, g3⟩
theorem MapAt.entL {vc : γ → List Cell} {b z : Nat} {M : List (α × γ)} {es : Array MapEntry} (h : MapAt Φ w b z kc vc M es) : EntL Φ kc es.toList M := by
  have key : ∀ (l : List MapEntry) (M : List (α × γ)), l.length = M.length → (∀ (i : Nat) (e : MapEntry) (p : α × γ), l[i]? = some e → M[i]? = some p → Rel Φ e.key (kc p.1)) → EntL Φ kc l M := by
    intro l
    induction l with
    | nil => intro M hl _; cases M with
      | nil => trivial
      | cons p M => simp at hl
    | cons e l ih => intro M hl hg; cases M with
      | nil => simp at hl
      | cons p M => exact ⟨hg 0 e p rfl rfl, ih M (by simpa using hl) fun i e' p' a b => hg (i + 1) e' p' (by simpa using a) (by simpa using b)⟩
  exact key _ _ (by simpa using h.size) fun i e p a b => (h.ent i e p (by simpa using a) b).2.1
theorem run_find (K : KeyK P kt kc) {vc : γ → List Cell} {b z : Nat} {M : List (α × γ)} {es : Array MapEntry} (h : MapAt Φ w b z kc vc M es) {v : Value} {k : α} (hv : Rel Φ v (kc k)) (y : γ) :
    (∃ j e x, (Instr.findKey kt v es.toList).run P w = .ok (some (j, e.val)) w ∧ es[j]? = some e ∧ e.key = v ∧ M[j]? = some (k, x) ∧ mput M k y = M.set j (k, y) ∧ mget M k = some x) ∨ ((Instr.findKey kt v es.toList).run P w = .ok none w ∧ mput M k y = M ++ [(k, y)] ∧ mget M k = none) := by
  obtain ⟨d, h1, h2⟩ := K.und
  rcases find_map (P := P) (kt := kt) K hv y (d := d) (fun u b hu => h2 Φ u b hu) es.toList M 0 h.entL with ⟨j, e, x, g1, g2, gk, g3, g4, g5⟩ | ⟨g1, g2, g3⟩
  · exact .inl ⟨j, e, x, run_findKey h1 (by simpa using g1), by simpa using g2, gk, g3, g4, g5⟩
  · exact .inr ⟨run_findKey h1 g1, g2, g3⟩
variable {T : TT} (hT : TOK P T)
include hT
theorem E_makeMap {o : Oper} {t k e d z : Nat} {ti : TI} (ho : o.op = .makeMap t none) (hd : o.dst = some d) (hn : d < A.n) :
    EffOp P G A o ((A.bind d d ⟨mapTag, z, []⟩).set d True (.mp d)) := EffOp.of_val fun Φ β a w hs => by
  obtain ⟨h1, h2, h3⟩ := hs.new_ok
  have hrun : (execOp a.eval o).run P w = .ok (.value (.map (some w.heap.size))) (w.alloc (.map #[] 0)) :=
    exec_val (m := Instr.makeMap t none) (by simp only [execOp, ho]; rfl) (by simp [Instr.makeMap, newObj, Sem.run])
  refine ⟨_, _, Φ, bindOwn β d d w.heap.size 0, hrun, ?_, Φ.le_refl⟩
  rw [hd]
  have hb := hs.bind (w' := w.alloc (.map #[] 0)) (d := d) (n := d) (b := w.heap.size) (cap := 0) (B := ⟨mapTag, z, []⟩) (row := none) (w.grownBy_alloc _ none) (fun k e => by cases e)
    (.inr ⟨map_ob, .inl ⟨rfl, #[], heap_alloc_new w _, rfl, fun i e r h => by simp at h⟩⟩) h1 h2 (fun m B' cap' _ _ h => h3 m B' cap' h)
  exact hb.put hn ⟨w.heap.size, 0, ⟨mapTag, z, []⟩, by simp [bindOwn], by simp only [St.bind]; rw [lk_cons, if_pos rfl], rfl, rfl⟩
theorem exec_u {ρ : Operand → Value} {o : Oper} {m : Sem Unit} {w w' : World} (ho : execOp ρ o = (do m; pure .skip)) (h : m.run P w = .ok () w') : (execOp ρ o).run P w = .ok .skip w' := by
  rw [ho, Sem.run_bind, h]; rfl
/-- no iterator over n in a slot -/
def AV.isItr (n : Nat) : AV → Bool
  | .itr _ m => Nat.beq m n
  | _ => false
def noItr (n : Nat) : List (Nat × (Prop × AV)) → Bool
  | [] => true
  | (_, (_, v)) :: r => bif v.isItr n then false else noItr n r
omit hT in
theorem noItr_at {n : Nat} : ∀ {env : List (Nat × (Prop × AV))}, noItr n env = true → ∀ t q d, lk env t ≠ some (q, .itr d n)
  | [], _, t, q, d, h => by simp [lk] at h
  | (s, (q0, v0)) :: r, hn, t, q, d, h => by
    rw [lk_cons] at h
    rw [noItr] at hn
    split at h
    · simp only [Option.some.injEq, Prod.mk.injEq] at h
      obtain ⟨_, rfl⟩ := h
      simp [AV.isItr] at hn
    · refine noItr_at (env := r) ?_ t q d h
      cases hb : v0.isItr n with
      | true => rw [hb] at hn; cases hn
      | false => rw [hb] at hn; exact hn
theorem E_mapUpdate {o : Oper} {t e n z : Nat} {m x y : Operand} {ti : TI} {vc : γ → List Cell} {M : List (α × γ)} {k : α} {v : γ} (K : KeyK P kt kc) (ho : o.op = .mapUpdate t m x y) (hd : o.dst = none) (ht : T t = some ti) (hk : ti.kind = .map kt e)
    (hm : Ev A True m (.mp n)) (hl : lk A.blks n = some ⟨mapTag, z, M.map (mrow kc vc)⟩) (hx : Ev A True x (.pv (.one (kc k)))) (hy : Ev A True y (.pv (mapPV z (vc v)))) (hni : noItr n A.env = true) :
    EffOp P G A o { A with blks := (n, ⟨mapTag, z, (mput M k v).map (mrow kc vc)⟩) :: A.blks } := EffOp.of_skip hd fun Φ β a w hs => by
  have hu : P.underlying t = some (.map kt e) := by have := (hT _ _ ht).kind; rw [hk] at this; exact this
  obtain ⟨b, cap, B', h1, h2, h3, h4⟩ := hs.ev hm trivial
  rw [hl] at h2
  obtain rfl := Option.some.inj h2
  obtain ⟨gB, gK, gP⟩ := hs.blk n _ b cap hl h1
  obtain ⟨es, hM⟩ := MapAt.of gB
  have hkey : Rel Φ (a.eval x) (kc k) := hs.ev hx trivial
  have hval : PRel Φ (a.eval y) (mapPV z (vc v)) := hs.ev hy trivial
  obtain ⟨d, hd1, hd2⟩ := K.und
  have hck := run_checkKey (w := w) hd1 (hd2 Φ _ k hkey) false 9999
  have hlt : b < w.heap.size := (Array.getElem?_eq_some_iff.1 hM.heap).1
  have fin : ∀ es' : Array MapEntry, (∀ (w'' : World), w''.heap[b]? = some (.map es' es'.size) → MapAt Φ w'' b z kc vc (mput M k v) es') → (Instr.mapUpdate t (a.eval m) (a.eval x) (a.eval y)).run P w = .ok () (setBlock w b (.map es' es'.size)) →
      ∃ w' Φ' β', (execOp a.eval o).run P w = .ok .skip w' ∧ Sat G Φ' β' { A with blks := (n, ⟨mapTag, z, (mput M k v).map (mrow kc vc)⟩) :: A.blks } a w' ∧ Φ.le Φ' := by
    intro es' hE hrun
    refine ⟨_, Φ, β, exec_u hT (m := Instr.mapUpdate t (a.eval m) (a.eval x) (a.eval y)) (by simp only [execOp, ho]) hrun, ?_, Φ.le_refl⟩
    refine hs.turnO hl h1 map_ob rfl rfl (fun _ => .inr (noItr_at hni)) ⟨rfl, rfl, rfl, by simp [setBlock], fun i hi hne => ?_⟩ (hE _ ?_).blk
    · have hne' : b ≠ i := fun e => hne (by rw [e])
      simp [setBlock, Array.getElem?_setIfInBounds_ne hne']
    · simp [setBlock, hlt]
  rcases run_find K hM hkey v with ⟨j, e0, x0, g1, g2, gk, g3, g4, g5⟩ | ⟨g1, g2, g3⟩
  · refine fin (es.modify j fun e => { e with key := a.eval x, val := a.eval y }) (fun w'' hw => ⟨hw, by simp [g4, hM.size], fun i e p q1 q2 => ?_⟩) ?_
    · rw [g4, List.getElem?_set] at q2
      rw [Array.getElem?_modify] at q1
      by_cases hij : j = i
      · subst hij
        rw [if_pos rfl] at q1 q2
        have hjl : j < M.length := (List.getElem?_eq_some_iff.1 g3).1
        rw [if_pos hjl] at q2
        rw [g2] at q1
        simp only [Option.map_some, Option.some.injEq] at q1 q2
        subst q1 q2
        exact ⟨(hM.ent j e0 (k, x0) g2 g3).1, hkey, hval⟩
      · rw [if_neg hij] at q1 q2
        exact hM.ent i e p q1 q2
    · have hst : (Instr.keyThatStays (((es[j]?).map (·.key)).getD (a.eval x)) (a.eval x)).run P w = .ok (a.eval x) w := by
        rw [g2]; simp only [Option.map_some, Option.getD_some, gk]
        exact run_keyThatStays (hd2 Φ _ k hkey)
      simp only [Instr.mapUpdate, Sem.run_bind, run_underlying hu, Result.andThen_ok, h4, run_getObj_map hM.heap, hck, g1, hst, run_setObj_map _ hM.heap]
      simp [setBlock]
  · refine fin (es.push { key := a.eval x, val := a.eval y, born := es.size }) (fun w'' hw => ⟨hw, by simp [g2, hM.size], fun i e p q1 q2 => ?_⟩) ?_
    · rw [g2] at q2
      rw [Array.getElem?_push] at q1
      split at q1
      · rename_i hi
        simp only [Option.some.injEq] at q1
        subst q1
        rw [hi, hM.size, List.getElem?_append_right (Nat.le_refl _)] at q2
        simp at q2
        subst q2
        exact ⟨hi.symm, hkey, hval⟩
      · rename_i hi
        have hil := (Array.getElem?_eq_some_iff.1 q1).1
        rw [List.getElem?_append_left (by rw [← hM.size]; exact hil)] at q2
        exact hM.ent i e p q1 q2
    · simp only [Instr.mapUpdate, Sem.run_bind, run_underlying hu, Result.andThen_ok, h4, run_getObj_map hM.heap, hck, g1, run_setObj_map _ hM.heap]
      simp [setBlock]
theorem P_lookup {o : Oper} {p : Prop} {t e n z : Nat} {m x : Operand} {c : Bool} {ti te : TI} {vc : γ → List Cell} {M : List (α × γ)} {k : α} (K : KeyK P kt kc) (ho : o.op = .lookup t m x c) (ht : T t = some ti) (hk : ti.kind = .map kt e) (he : T e = some te)
    (hm : Ev A p m (.mp n)) (hl : lk A.blks n = some ⟨mapTag, z, M.map (mrow kc vc)⟩) (hx : Ev A p x (.pv (.one (kc k)))) {r : PV} (hr : (match mget M k with | some v => mapPV z (vc v) | none => te.zero) = r) :
    PureOp P G A o p (bif c then .tup [r, .one (.bool (mget M k).isSome)] else .pv r) := PureOp.val fun Φ β a w hs hp => by
  have hu : P.underlying t = some (.map kt e) := by have := (hT _ _ ht).kind; rw [hk] at this; exact this
  obtain ⟨b, cap, B', h1, h2, h3, h4⟩ := hs.ev hm hp
  rw [hl] at h2
  obtain rfl := Option.some.inj h2
  obtain ⟨gB, gK, gP⟩ := hs.blk n _ b cap hl h1
  obtain ⟨es, hM⟩ := MapAt.of gB
  have hkey : Rel Φ (a.eval x) (kc k) := hs.ev hx hp
  obtain ⟨d, hd1, hd2⟩ := K.und
  have hck := run_checkKey (w := w) hd1 (hd2 Φ _ k hkey) es.isEmpty 9999
  obtain ⟨i, hi, hisz, hib, zv, hzz, hrel⟩ := (hT e te he).info
  have hz : (zeroValue e).run P w = .ok zv w := by simp [zeroValue, typeInfo, hi, hzz]
  have fin : ∀ v ok, (Instr.lookup t (a.eval m) (a.eval x) c).run P w = .ok (if c then .tuple #[v, .bool ok] else v) w → PRel Φ v r → ok = (mget M k).isSome →
      ∃ u, (execOp a.eval o).run P w = .ok (.value u) w ∧ AVRel Φ β A.blks u (bif c then .tup [r, .one (.bool (mget M k).isSome)] else .pv r) := by
    intro v ok hrun hv hok
    refine ⟨_, exec_val (m := Instr.lookup t (a.eval m) (a.eval x) c) (by simp only [execOp, ho]) hrun, ?_⟩
    cases c with
    | false => exact hv
    | true =>
      refine ⟨_, rfl, rfl, fun j p hj => ?_⟩
      match j with
      | 0 => simp at hj; subst hj; exact ⟨_, rfl, hv⟩
      | 1 => simp at hj; subst hj; rw [← hok]; exact ⟨_, rfl, Rel.bool _⟩
      | j + 2 => simp at hj
  cases hg : mget M k with
  | some v =>
    rw [hg] at hr fin
    rcases run_find K hM hkey v with ⟨j, e0, x0, g1, g2, gk, g3, g4, g5⟩ | ⟨g1, g2, g3⟩
    · refine fin e0.val true ?_ ?_ rfl
      · simp only [Instr.lookup, Sem.run_bind, run_underlying hu, Result.andThen_ok, h4, run_getObj_map hM.heap, hck, g1, Sem.run_pure]
      · rw [hg] at g5
        obtain rfl := Option.some.inj g5
        rw [← hr]
        exact (hM.ent j e0 _ g2 g3).2.2
    · rw [g3] at hg; cases hg
  | none =>
    rw [hg] at hr fin
    by_cases hne : Nonempty γ
    · obtain ⟨y⟩ := hne
      rcases run_find K hM hkey y with ⟨j, e0, x0, g1, g2, gk, g3, g4, g5⟩ | ⟨g1, g2, g3⟩
      · rw [g5] at hg; cases hg
      · refine fin zv false ?_ ?_ rfl
        · simp only [Instr.lookup, Sem.run_bind, run_underlying hu, Result.andThen_ok, h4, run_getObj_map hM.heap, hck, g1, Sem.run_pure, hz]
        · rw [← hr]; exact hrel Φ
    · have hM0 : M = [] := by
        cases M with
        | nil => rfl
        | cons p M => exact (hne ⟨p.2⟩).elim
      subst hM0
      have hes : es = #[] := Array.eq_empty_of_size_eq_zero (by simpa using hM.size)
      subst hes
      refine fin zv false ?_ ?_ rfl
      · have g1 : (Instr.findKey kt (a.eval x) (#[] : Array MapEntry).toList).run P w = .ok none w := run_findKey hd1 rfl
        simp only [Instr.lookup, Sem.run_bind, run_underlying hu, Result.andThen_ok, h4, run_getObj_map hM.heap, hck, g1, Sem.run_pure, hz]
      · rw [← hr]; exact hrel Φ
end
end Lf
end
section
set_option linter.unusedVariables false
set_option linter.unusedSimpArgs false
set_option linter.unusedSectionVars false
namespace Lf
open Go Go.RowKit
section
variable {P : Program} {G : Ghost} {A : St} {ops : Array Oper} {fuel : Nat} {L : List Bool} {Q : St → Prop}
/-- What is left of a region of which L has been carried out, in whatever order. -/
def RA (P : Program) (G : Ghost) (ops : Array Oper) (fuel : Nat) (L : List Bool) (Q : St → Prop) (A : St) : Prop :=
  ∀ Φ β a w, Sat G Φ β A a w → ∀ Q' : Exit → Act → World → Prop, (∀ A' Φ' β' a' w', Q A' → Sat G Φ' β' A' a' w' → Φ.le Φ' → Q' .normal a' w') → wpAny P .any ops Q' fuel L.toArray a w
def RAll (P : Program) (G : Ghost) (ops : Array Oper) (fuel : Nat) (L : List Bool) (Q : St → Prop) (A : St) : List Nat → Prop
  | [] => True
  | i :: is => (∃ o, ops[i]? = some o ∧ RG P G ops [o] (RA P G ops fuel (L.set i true) Q) A) ∧ RAll P G ops fuel L Q A is
theorem RAll.nil : RAll P G ops fuel L Q A [] := trivial
theorem RAll.cons {i : Nat} {is : List Nat} {o : Oper} (ho : ops[i]? = some o) (h : RG P G ops [o] (RA P G ops fuel (L.set i true) Q) A) (h' : RAll P G ops fuel L Q A is) : RAll P G ops fuel L Q A (i :: is) := ⟨⟨o, ho, h⟩, h'⟩
theorem RAll.get : ∀ {is : List Nat}, RAll P G ops fuel L Q A is → ∀ i ∈ is, ∃ o, ops[i]? = some o ∧ RG P G ops [o] (RA P G ops fuel (L.set i true) Q) A
  | j :: is, h, i, hi => by
    rcases List.mem_cons.1 hi with rfl | hm
    · exact h.1
    · exact RAll.get h.2 i hm
theorem RA.done (hr : Region.ready .any ops L.toArray = []) (h : Q A) : RA P G ops 0 L Q A := fun Φ β a w hs Q' hq => ⟨hr, hq A Φ β a w h hs Φ.le_refl⟩
theorem RA.step {i : Nat} {is : List Nat} (hr : Region.ready .any ops L.toArray = i :: is) (h : RAll P G ops fuel L Q A (i :: is)) : RA P G ops (fuel + 1) L Q A := fun Φ β a w hs Q' hq => by
  refine ⟨fun e => (by rw [hr] at e; cases e), fun j hj => ?_⟩
  rw [hr] at hj
  obtain ⟨o, ho, hg⟩ := h.get j hj
  let Q'' : Exit → Act → World → Prop := fun e a' w' => match e with
    | .normal => wpAny P .any ops Q' fuel (L.set j true).toArray a' w'
    | e => Q' e a' w'
  have h1 := hg Φ β a w hs Q'' fun A1 Φ1 β1 a1 w1 q s l => q Φ1 β1 a1 w1 s Q' fun A2 Φ2 β2 a2 w2 q2 s2 l2 => hq A2 Φ2 β2 a2 w2 q2 s2 (Frz.le_trans l l2)
  unfold wpList at h1
  unfold wpOp
  simp only [ho]
  have hk : ∀ a' w', wpList P ops Q'' [] a' w' → wpAny P .any ops Q' fuel (L.toArray.setIfInBounds j true) a' w' := fun a' w' h => by
    have : L.toArray.setIfInBounds j true = (L.set j true).toArray := by simp
    rw [this]; exact h
  split
  · rename_i hw
    rw [if_pos hw] at h1
    rcases h1 with h1 | ⟨h1, a2, w2, h2⟩
    · refine .inl ?_
      unfold Oper.wp at *
      revert h1
      generalize (execOp a.eval o).run P w = r
      intro h1
      cases r with
      | ok n w' =>
        cases n <;> simp only [Oper.upon] at h1 ⊢ <;>
          first
            | exact hk _ _ h1
            | exact Calls.mono h1 (fun e w'' he => by
                cases e <;> first
                  | exact hk _ _ he
                  | exact he
                  | (obtain ⟨a0, w0, h0⟩ := he; exact ⟨a0, w0, h0⟩))
            | exact Rows.mono h1 (fun _ _ he => hk _ _ he)
      | halt x w' => cases x <;> simp only [Oper.upon] at h1 ⊢ <;> exact h1
    · exact .inr ⟨h1, a2, w2, h2⟩
  · rename_i hw
    rw [if_neg hw] at h1
    exact hk _ _ h1
theorem W.drawA {id : Nat} {l : List Oper} {L : List Bool} {Q : Exit → St → Prop} (hm : P.follows .mixedOrders = true) (hL : List.replicate l.length false = L) (h : RA P G l.toArray l.length L (Q .normal) A) : W P G (.region id l.toArray true) Q A := fun Φ β a w hs => by
  refine wp_region_any hm ?_
  have hsz : l.toArray.size = l.length := by simp
  rw [hsz]
  have e : Array.replicate l.length false = L.toArray := by rw [← hL]; simp
  rw [e]
  exact h Φ β a { w with drawn := w.drawn + 1 } ⟨hs.kept.drew, hs.fits, hs.old, hs.siz, hs.dfr, hs.env, hs.blk, hs.vir, hs.inj⟩ _ fun A' Φ' β' a' w' q s le => ⟨A', Φ', β', q, s, le⟩
end
section
variable {P : Program} {G : Ghost} {A : St} {Φ : Frz} {β : Own} {a : Act} {w w' : World}
structure OCalls (P : Program) (f : FuncId) (args : List PV) (E sz : Nat) (rows : List (List Cell)) : Prop where
  fn : FnOK P f
  calls : ∀ (Φ : Frz) (w : World) (vs : Array Value), Fits Φ w → ArgsRel Φ vs args → Calls P f vs w (fun e w' => ∃ v Φ', e = .returned v ∧ ((v = .slice none 0 0 ∧ rows = []) ∨ ∃ b cap, v = .slice (some ⟨b, 0, none⟩) rows.length cap ∧ w.heap.size ≤ b ∧ BlkRel Φ' w' b cap ⟨E, sz, rows⟩ ∧ Φ' b = none) ∧
    Φ.le Φ' ∧ (∀ b, b < w.heap.size → Φ' b = Φ b) ∧ Fits Φ' w' ∧ Below w.heap.size w w')
/-- the end of such a function -/
def FinO (t E sz : Nat) (rows : List (List Cell)) (e : Exit) (A : St) : Prop := (e = .normal ∨ e = .ret) ∧ ((lk A.env t = some (True, .pv (.one .slnil)) ∧ rows = []) ∨ ∃ n, lk A.env t = some (True, .slc n) ∧ lk A.blks n = some ⟨E, sz, rows⟩)
theorem FinO.ret {t E sz n : Nat} {rows rows' : List (List Cell)} (h : lk A.env t = some (True, .slc n)) (hl : lk A.blks n = some ⟨E, sz, rows'⟩) (hr : rows' = rows) : FinO t E sz rows .ret A := ⟨.inr rfl, .inr ⟨n, h, hr ▸ hl⟩⟩
theorem FinO.nil {t E sz : Nat} {rows : List (List Cell)} (h : lk A.env t = some (True, .pv (.one .slnil))) (hr : rows = []) : FinO t E sz rows .ret A := ⟨.inr rfl, .inl ⟨h, hr⟩⟩
theorem sat_init {G : Ghost} {f : FuncId} {fn : Func} {args : List PV} {Φ : Frz} {w : World} {vs : Array Value} (hG : G = { w0 := w, K := fun b => b < w.heap.size, F0 := Φ, lt := fun b h => h }) (hfit : Fits Φ w) (harg : ArgsRel Φ vs args) :
    Sat G Φ (fun _ => none) (St.init fn.ntmps args) { tmps := vs ++ Array.replicate (fn.ntmps - vs.size) undef, defers := [] } w := by
  subst hG
  refine ⟨⟨rfl, rfl, rfl, Nat.le_refl _, fun b _ => rfl⟩, hfit, fun b _ => rfl, by simp [St.init]; omega, rfl, fun t q v hl => ?_, fun n B b cap h1 => by simp [St.init, lk] at h1, fun n B h1 => by simp [St.init, lk] at h1, fun n n' B B' b cap cap' h1 => by simp [St.init, lk] at h1⟩
  obtain ⟨_, rfl, p, hp, rfl⟩ := lk_init args 0 t q v hl
  refine ⟨fun _ => ?_, fun hq => (hq trivial).elim⟩
  obtain ⟨v, h1, h2⟩ := harg.2 (t - 0) p hp
  have hlt := (Array.getElem?_eq_some_iff.1 h1).1
  have : (vs ++ Array.replicate (fn.ntmps - vs.size) undef).getD t undef = v := by
    rw [Array.getD_eq_getD_getElem?, Array.getElem?_append_left (by simpa using hlt)]
    simp only [Nat.sub_zero] at h1
    rw [h1]; rfl
  show PRel Φ _ p
  rw [this]; exact h2
theorem OCalls.of_W {f : FuncId} {fn : Func} {c : Code} {args : List PV} {E sz : Nat} {rows : List (List Cell)} (t n : Nat) (hf : P.funcs[f]? = some fn) (hn : (fn.name == "runtime.NumGoroutine") = false) (hb : fn.body = some c)
    (hr : fn.results = #[.tmp t]) (hnt : fn.ntmps = n) (hE : Nat.ble mapTag E = false) (h : ∀ G, W P G c (FinO t E sz rows) (St.init n args)) : OCalls P f args E sz rows where
  fn := ⟨fn, hf, hn, by rw [hb]; rfl⟩
  calls := fun Φ w vs hfit harg => by
    subst hnt
    refine calls_of_wp hf hb (wp_mono (h _ Φ (fun _ => none) _ w (sat_init (f := f) rfl hfit harg)) fun e a' w' ⟨A', Φ', β', ⟨he, hres⟩, hs, hle⟩ => ?_)
    have hv : a'.defers = [] ∧ ∃ v, (results fn a'.tmps).run P w' = .ok v w' ∧ (∃ v1 Φ'', Ending.returned v = .returned v1 ∧ ((v1 = .slice none 0 0 ∧ rows = []) ∨ ∃ b cap, v1 = .slice (some ⟨b, 0, none⟩) rows.length cap ∧ w.heap.size ≤ b ∧ BlkRel Φ'' w' b cap ⟨E, sz, rows⟩ ∧ Φ'' b = none) ∧
        Φ.le Φ'' ∧ (∀ b, b < w.heap.size → Φ'' b = Φ b) ∧ Fits Φ'' w' ∧ Below w.heap.size w w') := by
      refine ⟨hs.dfr, _, run_results (ts := [t]) (by rw [hr]; rfl) _ _, _, Φ', rfl, ?_, hle, fun b hb => hs.old b hb, hs.fits, ⟨hs.kept.os, hs.kept.tape, hs.kept.output, hs.kept.size, hs.kept.block⟩⟩
      show ((a'.tmps.getD t undef) = _ ∧ _) ∨ _
      rcases hres with ⟨h1, h2⟩ | ⟨m, h1, h2⟩
      · have h3 : Rel Φ' (a'.tmps.getD t undef) .slnil := (hs.env t True _ h1).1 trivial
        refine .inl ⟨?_, h2⟩
        cases hv : a'.tmps.getD t undef <;> rw [hv] at h3 <;> cases h3
        rfl
      · obtain ⟨B, k1, k2, k3⟩ := (hs.env t True _ h1).1 trivial
        rw [h2] at k1
        obtain rfl := Option.some.inj k1
        rcases k3 with ⟨k3, k4⟩ | ⟨b, cap, k3, k4⟩
        · exact .inl ⟨k4, hs.vir m _ h2 k3⟩
        · obtain ⟨g1, g2, g3⟩ := hs.blk m _ b cap h2 k3
          refine .inr ⟨b, cap, k4, ?_, g1, g3⟩
          exact Nat.le_of_not_lt g2
    rcases he with rfl | rfl
    · exact hv
    · exact hv
theorem Sat.below {Φ' : Frz} (hs : Sat G Φ β A a w) (hle : Φ.le Φ') (heq : ∀ b, b < w.heap.size → Φ' b = Φ b) (hf : Fits Φ' w') (hb : Below w.heap.size w w') : Sat G Φ' β A a w' where
  kept := hs.kept.below hb
  fits := hf
  old := fun b hk => (heq b (Nat.lt_of_lt_of_le (G.lt b hk) hs.kept.size)).trans (hs.old b hk)
  siz := hs.siz
  dfr := hs.dfr
  env := fun t q v h => ⟨fun hq => ((hs.env t q v h).1 hq).mono hle, (hs.env t q v h).2⟩
  blk := fun n B b cap h1 h2 => by
    obtain ⟨h3, h4, h5⟩ := hs.blk n B b cap h1 h2
    exact ⟨blkRel_below hle hb h3, h4, by rw [heq b h3.lt]; exact h5⟩
  vir := hs.vir
  inj := hs.inj
theorem E_callo {o : Oper} {f : FuncId} {xs : List Operand} {ats : Array TypeId} {ps : List PV} {E sz d : Nat} {rows : List (List Cell)} (ho : o.op = .call { callee := .value (.func f), args := xs.toArray, argTypes := ats }) (hd : o.dst = some d) (hn : d < A.n)
    (hx : EvD A True xs ps) (hE : Nat.ble mapTag E = false) (hc : OCalls P f ps E sz rows) : EffOp P G A o ((A.bind d d ⟨E, sz, rows⟩).set d True (.slc d)) := fun Φ β a w hs => by
  unfold Oper.wp
  rw [call_run ho hc.fn]
  refine Calls.mono (hc.calls Φ w _ hs.fits ⟨by simp [evd_len hx], fun j q hq => ?_⟩) ?_
  · obtain ⟨x, h1, h2⟩ := evd_args hs trivial hx j q hq
    exact ⟨a.eval x, by simp [h1], h2⟩
  · rintro e w' ⟨v, Φ', rfl, hv, hle, heq, hfit, hb⟩
    have hs' := hs.below hle heq hfit hb
    show ∃ Φ'' β', Sat G Φ'' β' _ (a.put o.dst v) w' ∧ Φ.le Φ''
    rw [hd]
    rcases hv with ⟨rfl, rfl⟩ | ⟨b, cap, rfl, h1, h2, h3⟩
    · exact ⟨Φ', _, (hs'.bindNil (d := d) (n := d) (E := E) (sz := sz)).putNil hn (by simp only [St.bind]; rw [lk_cons, if_pos rfl]) (by exact hE) (by simp), hle⟩
    · have hbd := hs'.bind (w' := w') (d := d) (n := d) (b := b) (cap := cap) (B := ⟨E, sz, rows⟩) (row := none) ⟨rfl, rfl, rfl, Nat.le_refl _, fun _ _ _ => rfl⟩ (fun k e => by cases e) h2
        (fun hk => by have := G.lt b hk; have := hs.kept.size; omega) h3 (fun m B' cap' _ _ q1 q2 => by have := (hs.blk m B' b cap' q1 q2).1.lt; omega)
      exact ⟨Φ', _, hbd.putSlc hn (by simp only [St.bind]; rw [lk_cons, if_pos rfl]) (by exact hE) bindOwn_self, hle⟩
end
section
variable {P : Program} {G : Ghost} {ops : Array Oper} {rest : List Oper} {Q : St → Prop} {n0 : Nat} {env : List (Nat × (Prop × AV))} {bl : List (Nat × Blk)} {p : Prop} {dst : Option Nat} {ty : TypeId} {pos : String} {after : Array Edge} {gd : Option (Nat × Bool)}
def EvC (A : St) (p : Prop) : List Operand → List Cell → Prop
  | [], [] => True
  | x :: xs, c :: cs => Ev A p x (.pv (.one c)) ∧ EvC A p xs cs
  | _, _ => False
theorem EvC.nil {A : St} : EvC A p [] [] := trivial
theorem EvC.cons {A : St} {x : Operand} {c : Cell} {xs : List Operand} {cs : List Cell} (h : Ev A p x (.pv (.one c))) (h' : EvC A p xs cs) : EvC A p (x :: xs) (c :: cs) := ⟨h, h'⟩
theorem evc_get {A : St} {Φ : Frz} {β : Own} {a : Act} {w : World} (hs : Sat G Φ β A a w) (hp : p) : ∀ {xs : List Operand} {cs : List Cell}, EvC A p xs cs → xs.length = cs.length ∧ ∀ (j : Nat) (c : Cell), cs[j]? = some c → ∃ x, xs[j]? = some x ∧ Rel Φ (a.eval x) c
  | [], [], _ => ⟨rfl, fun j c h => by simp at h⟩
  | x :: xs, c :: cs, ⟨h1, h2⟩ => by
    obtain ⟨g1, g2⟩ := evc_get hs hp h2
    refine ⟨by simp [g1], fun j d hj => ?_⟩
    cases j with
    | zero => simp at hj; subst hj; exact ⟨x, rfl, hs.ev h1 hp⟩
    | succ j => simpa using g2 j d (by simpa using hj)
/-- a function value that holds data -/
theorem Q_makeFunc {f : Nat} {xs : List Operand} {cs : List Cell} (hx : EvC (St.mk n0 env bl) p xs cs) : PureOp P G (St.mk n0 env bl) ⟨dst, .makeFunc (.func f) #[] xs.toArray, ty, pos, after, gd⟩ p (.pv (.one (.fn f cs))) := PureOp.val fun Φ β a w hs hp => by
  obtain ⟨h1, h2⟩ := evc_get hs hp hx
  refine ⟨.func (.func f) #[] (xs.map a.eval).toArray, by simp [execOp, Instr.makeFunc], Rel.fn f cs _ (fun j => ((xs.map a.eval)[j]?).getD .nilFunc) (by simp [h1]) (fun j c hj => ?_) (fun j c hj => ?_)⟩
  · obtain ⟨x, k1, k2⟩ := h2 j c hj
    simp [k1]
  · obtain ⟨x, k1, k2⟩ := h2 j c hj
    simp [k1, k2]
theorem S_callo {d E sz : Nat} {rows : List (List Cell)} {f : FuncId} {xs : List Operand} {ats : Array TypeId} {ps : List PV} (hc : OCalls P f ps E sz rows) (hE : Nat.ble mapTag E = false) (hfr : lk bl d = none) (hn : Nat.blt d n0 = true) (hx : EvD (St.mk n0 env bl) True xs ps)
    (h : RG P G ops rest Q (St.mk n0 ((d, (True, .slc d)) :: env) ((d, ⟨E, sz, rows⟩) :: bl))) : RG P G ops (⟨some d, .call ⟨.value (.func f), xs.toArray, ats⟩, ty, pos, after, none⟩ :: rest) Q (St.mk n0 env bl) :=
  RG.eff rfl (EffOp.fresh hfr (E_callo rfl rfl (blt_lt hn) hx hE hc)) h
variable {T : TT} (hT : TOK P T)
include hT
/-- a slice that came in, held against nil -/
theorem S_isnil {t e d yt : Nat} {x : Operand} {ti : TI} {rows : List (List Cell)} (ht : T t = some ti) (hk : ti.kind = .slice e) (hn : Nat.blt d n0 = true) (hx : Ev (St.mk n0 env bl) True x (.pv (.one (.sl rows))))
    (h : ∀ b : Bool, (b = true → rows = []) → RG P G ops rest Q (St.mk n0 ((d, (True, .pv (.one (.bool b)))) :: env) bl)) : RG P G ops (⟨some d, .binOp .eql t x (.const (.slice none 0 0)) yt, ty, pos, after, none⟩ :: rest) Q (St.mk n0 env bl) := by
  refine RG.effF (F := fun s : { b : Bool // b = true → rows = [] } => St.mk n0 ((d, (True, .pv (.one (.bool s.1)))) :: env) bl) rfl (EffF.of_val fun Φ β a w hs => ?_) fun s => h s.1 s.2
  have hu : P.underlying t = some (.slice e) := by have := (hT _ _ ht).kind; rw [hk] at this; exact this
  have hr : Rel Φ (a.eval x) (.sl rows) := hs.ev hx trivial
  obtain ⟨ad, len, cap, hv, hz⟩ : ∃ ad len cap, a.eval x = .slice ad len cap ∧ (ad.isNone = true → rows = []) := by
    generalize a.eval x = v at hr
    cases hr with
    | sl0 => exact ⟨_, _, _, rfl, fun _ => rfl⟩
    | slE a cap => exact ⟨_, _, _, rfl, fun h => by cases h⟩
    | sl b off len cap sz rows f => exact ⟨_, _, _, rfl, fun h => by cases h⟩
  refine ⟨.bool ad.isNone, w, ⟨ad.isNone, hz⟩, Φ, β, exec_val (m := do eqGuard .eql t x (.const (.slice none 0 0)) (a.eval x) (a.eval (.const (.slice none 0 0))); binOp .eql t (a.eval x) (a.eval (.const (.slice none 0 0)))) (by simp only [execOp]) ?_, hs.put (blt_lt hn) (Rel.bool _), Φ.le_refl⟩
  have e1 : a.eval (.const (.slice none 0 0)) = .slice none 0 0 := rfl
  rw [hv, e1]
  have e2 : eqGuard .eql t x (.const (.slice none 0 0)) (.slice ad len cap) (.slice none 0 0) = pure () := rfl
  rw [e2]
  simp only [pure_bind, binOp]
  have e3 : (Op.equal t (.slice ad len cap) (.slice none 0 0)).run P w = .ok ad.isNone w := by
    rw [Op.equal, Op.maxDepth, Op.equalIn]; cases ad <;> simp [run_underlying hu]
  simp [e3]
theorem S_makeMap (z : Nat) {t d : Nat} (hfr : lk bl d = none) (hn : Nat.blt d n0 = true)
    (h : RG P G ops rest Q (St.mk n0 ((d, (True, .mp d)) :: env) ((d, ⟨mapTag, z, []⟩) :: bl))) : RG P G ops (⟨some d, .makeMap t none, ty, pos, after, none⟩ :: rest) Q (St.mk n0 env bl) :=
  RG.eff rfl (EffOp.fresh hfr (E_makeMap (hT := hT) (t := t) (k := 0) (e := 0) (ti := ⟨.other, 0, 0, default⟩) rfl rfl (blt_lt hn))) h
variable {α γ : Type} [DecidableEq α] {kc : α → Cell} {kt : TypeId}
theorem S_mapUpdate (K : KeyK P kt kc) {t e n z : Nat} {m x y : Operand} {ti : TI} {vc : γ → List Cell} {M : List (α × γ)} {k : α} {v : γ} (hm : Ev (St.mk n0 env bl) True m (.mp n)) (hl : lk bl n = some ⟨mapTag, z, M.map (mrow kc vc)⟩)
    (hx : Ev (St.mk n0 env bl) True x (.pv (.one (kc k)))) (hy : Ev (St.mk n0 env bl) True y (.pv (mapPV z (vc v)))) (ht : T t = some ti) (hk : ti.kind = .map kt e) (hni : noItr n env = true)
    (h : RG P G ops rest Q (St.mk n0 env ((n, ⟨mapTag, z, (mput M k v).map (mrow kc vc)⟩) :: bl))) : RG P G ops (⟨none, .mapUpdate t m x y, ty, pos, after, none⟩ :: rest) Q (St.mk n0 env bl) :=
  RG.eff rfl (E_mapUpdate hT K rfl rfl ht hk hm hl hx hy hni) h
theorem Q_lookup (K : KeyK P kt kc) {t e n z : Nat} {m x : Operand} {c : Bool} {ti te : TI} {vc : γ → List Cell} {M : List (α × γ)} {k : α} {r : PV} (hm : Ev (St.mk n0 env bl) p m (.mp n)) (hl : lk bl n = some ⟨mapTag, z, M.map (mrow kc vc)⟩)
    (hx : Ev (St.mk n0 env bl) p x (.pv (.one (kc k)))) (ht : T t = some ti) (hk : ti.kind = .map kt e) (he : T e = some te) (hr : (match mget M k with | some v => mapPV z (vc v) | none => te.zero) = r) :
    PureOp P G (St.mk n0 env bl) ⟨dst, .lookup t m x c, ty, pos, after, gd⟩ p (bif c then .tup [r, .one (.bool (mget M k).isSome)] else .pv r) := P_lookup hT K rfl ht hk he hm hl hx hr
end
theorem strAt {l : List UInt8} {k : Nat} (h : k < l.length) : 0 ≤ (k : Int) ∧ l[(k : Int).toNat]? = some (nth l k) := by
  refine ⟨Int.natCast_nonneg k, ?_⟩
  simp [List.getElem?_eq_getElem h, nth, List.getD]
/-- arguments, and behind them what a function value holds -/
def EvA (A : St) (p : Prop) (caps : List Cell) : List Operand → List PV → Prop
  | [], qs => qs = caps.map PV.one
  | x :: xs, q :: qs => (∃ r, Ev A p x (.pv r) ∧ PSub r q) ∧ EvA A p caps xs qs
  | _, _ => False
theorem EvA.nil {A : St} {p : Prop} {caps : List Cell} {qs : List PV} (h : qs = caps.map PV.one) : EvA A p caps [] qs := h
theorem EvA.cons {A : St} {p : Prop} {caps : List Cell} {x : Operand} {xs : List Operand} {q r : PV} {qs : List PV} (h : Ev A p x (.pv r)) (hs : PSub r q) (ht : EvA A p caps xs qs) : EvA A p caps (x :: xs) (q :: qs) := ⟨⟨r, h, hs⟩, ht⟩
theorem EvA.split {A : St} {p : Prop} {caps : List Cell} : ∀ {xs : List Operand} {as1 : List PV}, EvA A p caps xs as1 → ∃ ps, as1 = ps ++ caps.map PV.one ∧ EvD A p xs ps
  | [], qs, h => ⟨[], h, trivial⟩
  | x :: xs, q :: qs, ⟨h1, h2⟩ => by
    obtain ⟨ps, rfl, h3⟩ := EvA.split h2
    exact ⟨q :: ps, rfl, h1, h3⟩
theorem Q_callvA {P : Program} {G : Ghost} {n0 : Nat} {env : List (Nat × (Prop × AV))} {bl : List (Nat × Blk)} {p : Prop} {dst : Option Nat} {ty : TypeId} {pos : String} {after : Array Edge} {gd : Option (Nat × Bool)} {f : FuncId} {x : Operand} {caps : List Cell} {xs : List Operand} {ats : Array TypeId} {as1 : List PV} {r : AV}
    (hc : ACalls P f as1 r) (hc0 : Ev (St.mk n0 env bl) p x (.pv (.one (.fn f caps)))) (hx : EvA (St.mk n0 env bl) p caps xs as1) : PureOp P G (St.mk n0 env bl) ⟨dst, .call ⟨.value x, xs.toArray, ats⟩, ty, pos, after, gd⟩ p r := by
  obtain ⟨ps, rfl, h⟩ := hx.split
  exact Q_callvd hc0 h hc.fn fun _ => hc
/-- the rows of an own block stand still from here on; a function value that holds pointers into it -/
theorem S_makeFuncF {P : Program} {G : Ghost} {ops : Array Oper} {rest : List Oper} {Q : St → Prop} {n0 : Nat} {env : List (Nat × (Prop × AV))} {bl : List (Nat × Blk)} {ty : TypeId} {pos : String} {after : Array Edge} {d f : Nat} {xs : List Operand} {cs : List Cell} (hx : EvC (St.mk n0 (frzE bl env) []) True xs cs) (hn : Nat.blt d n0 = true)
    (h : RG P G ops rest Q (St.mk n0 ((d, (True, .pv (.one (.fn f cs)))) :: frzE bl env) [])) : RG P G ops (⟨some d, .makeFunc (.func f) #[] xs.toArray, ty, pos, after, none⟩ :: rest) Q (St.mk n0 env bl) :=
  RG.weaken Le.freeze (U_ (Q_makeFunc hx) hn h)
theorem nth_mem {α : Type} [Inhabited α] {l : List α} {k : Nat} (h : k < l.length) : nth l k ∈ l := by
  rw [nth, List.getD, List.getElem?_eq_getElem h]; exact List.getElem_mem h
end Lf
end
