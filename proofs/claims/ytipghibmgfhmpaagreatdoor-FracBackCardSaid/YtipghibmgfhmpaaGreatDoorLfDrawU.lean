/-
  Regions whose order is open: a lexical run of the first operations, one constant that may come at any time, then way by way.
-/
import Derived.Test.YtipghibmgfhmpaaGreatDoorLfAny
set_option linter.unusedVariables false
set_option linter.unusedSimpArgs false
namespace Lf
open Go Go.RowKit
section
variable {l : List Oper} {ms : List Nat} {tss : List (List Nat)} {m u du : Nat}
structure OrdU (l : List Oper) (ms : List Nat) (tss : List (List Nat)) (m u du : Nat) : Prop where
  a : ∀ y o, l[y]? = some o → (∀ j ∈ deps o, j < y) ∧ ∀ j, (ms.getD y 0).testBit j = true → ∃ d ∈ deps o, j = d ∨ (ms.getD d 0).testBit j = true
  b : ∀ y o, l[y]? = some o → y < m → (∃ d, o.dst = some d ∧ d ≠ du) ∧ (∀ t ∈ tss.getD y [], t ≠ du ∧ (t ∈ looks l.toArray o ∨ ∀ (j : Nat) (ox : Oper), l[j]? = some ox → ox.dst ≠ some t)) ∧ ∀ x ox, x < y → l[x]? = some ox → clash l.toArray ox o = true → (ms.getD y 0).testBit x = true
  c : ∀ y o, l[y]? = some o → m ≤ y → y ≠ u → ∀ x, x < m → (ms.getD y 0).testBit x = true
  d : ∃ o, l[u]? = some o ∧ o.dst = some du ∧ deps o = [] ∧ o.guard = none
  e : m ≤ u
def orderU (l : List Oper) (ms : List Nat) (tss : List (List Nat)) (m u du : Nat) (sg : List (Nat × Nat)) : Bool :=
  Nat.ble m u && Nat.blt u l.length &&
  (List.range l.length).all fun y =>
    let o := l.getD y default
    let my := ms.getD y 0
    (deps o).all (fun j => Nat.blt j y) &&
    Nat.beq my ((deps o).foldl (fun s j => s ||| 2 ^ j ||| ms.getD j 0) 0) &&
    (bif Nat.blt y m then
      sigOk l.toArray o (sg.getD y (0, 0)) && !Nat.beq (sg.getD y (0, 0)).1 du && (tss.getD y []).all (fun t => !Nat.beq t du && ((looks l.toArray o).any (Nat.beq t) || unwr l t)) && pairsOk (sg.getD y (0, 0)) my 0 (sg.take y)
     else bif Nat.beq y u then (deps o).isEmpty && o.guard.isNone && (match o.dst with | some d => Nat.beq d du | none => false)
     else (List.range m).all fun x => my.testBit x)
theorem OrdU.of {sg : List (Nat × Nat)} (hsg : Nat.beq sg.length m = true) (h : orderU l ms tss m u du sg = true) : OrdU l ms tss m u du := by
  have hsg := Nat.eq_of_beq_eq_true hsg
  unfold orderU at h
  rw [Bool.and_eq_true, Bool.and_eq_true] at h
  obtain ⟨⟨hmu, hul⟩, h⟩ := h
  have hmu := Nat.le_of_ble_eq_true hmu
  have hul := blt_lt hul
  have at' : ∀ y o, l[y]? = some o → l.getD y default = o := fun y o hy => by simp [List.getD, hy]
  have mem : ∀ y o, l[y]? = some o → y ∈ List.range l.length := fun y o hy => List.mem_range.2 (List.getElem?_eq_some_iff.1 hy).1
  have blt_t : ∀ {x y : Nat}, x < y → Nat.blt x y = true := fun h => by simpa [Nat.blt_eq] using h
  have blt_f : ∀ {x y : Nat}, y ≤ x → Nat.blt x y = false := fun {x y} h => by
    cases hb : Nat.blt x y with
    | false => rfl
    | true => have := blt_lt hb; omega
  refine ⟨fun y o hy => ?_, fun y o hy hm => ?_, fun y o hy hm hu => ?_, ?_, hmu⟩
  · have h0 := List.all_eq_true.1 h y (mem y o hy)
    simp only [at' y o hy, Bool.and_eq_true] at h0
    obtain ⟨⟨h1, h2⟩, _⟩ := h0
    refine ⟨fun j hj => blt_lt (List.all_eq_true.1 h1 j hj), fun j hj => ?_⟩
    rw [Nat.eq_of_beq_eq_true h2] at hj
    rcases fold_bit ms _ _ _ hj with h | h
    · simp at h
    · exact h
  · have h0 := List.all_eq_true.1 h y (mem y o hy)
    simp only [at' y o hy, Bool.and_eq_true, blt_t hm, cond_true] at h0
    obtain ⟨_, ⟨⟨h2, h2'⟩, h3⟩, h4⟩ := h0
    refine ⟨?_, fun t ht => ?_, fun x ox hx hox hc => ?_⟩
    · have h2c := h2
      unfold sigOk at h2c
      cases hd : o.dst with
      | none => rw [hd] at h2c; simp at h2c
      | some d =>
        rw [hd] at h2c
        rw [Bool.and_eq_true] at h2c
        refine ⟨d, rfl, fun e => ?_⟩
        have := Nat.eq_of_beq_eq_true h2c.1
        subst e
        rw [← this] at h2'
        simp at h2'
    · have h5 := List.all_eq_true.1 h3 t ht
      rw [Bool.and_eq_true, Bool.or_eq_true] at h5
      refine ⟨fun e => by subst e; simp at h5, ?_⟩
      rcases h5.2 with h5 | h5
      · obtain ⟨z, hz, he⟩ := List.any_eq_true.1 h5
        exact .inl (by rw [Nat.eq_of_beq_eq_true he]; exact hz)
      · exact .inr fun j ox hj => unwr_at h5 hj
    · have g0 := List.all_eq_true.1 h x (mem x ox hox)
      simp only [at' x ox hox, Bool.and_eq_true, blt_t (show x < m by omega), cond_true] at g0
      have := clash_of g0.2.1.1.1 h2 hc
      have hgx : (sg.take y)[x]? = some (sg.getD x (0, 0)) := by
        rw [List.getElem?_take, if_pos hx]
        simp [List.getD, List.getElem?_eq_getElem (show x < sg.length by omega)]
      have := pairsOk_at h4 hgx this
      simpa only [Nat.zero_add] using this
  · have h0 := List.all_eq_true.1 h y (mem y o hy)
    have hbu : Nat.beq y u = false := by
      cases hb : Nat.beq y u with
      | false => rfl
      | true => exact absurd (Nat.eq_of_beq_eq_true hb) hu
    simp only [at' y o hy, Bool.and_eq_true, blt_f hm, hbu, cond_false] at h0
    exact fun x hx => List.all_eq_true.1 h0.2 x (List.mem_range.2 hx)
  · have hy : l[u]? = some l[u] := List.getElem?_eq_getElem _
    have h0 := List.all_eq_true.1 h u (mem u _ hy)
    simp only [at' u _ hy, Bool.and_eq_true, blt_f hmu, cond_false, Nat.beq_refl, cond_true] at h0
    obtain ⟨_, ⟨h1, h2⟩, h3⟩ := h0
    refine ⟨l[u], hy, ?_, List.isEmpty_iff.1 h1, Option.isNone_iff_eq_none.1 h2⟩
    cases hd : (l[u]).dst with
    | none => rw [hd] at h3; cases h3
    | some d => rw [hd] at h3; rw [Nat.eq_of_beq_eq_true h3]
theorem closedU (h : OrdU l ms tss m u du) {L : Nat → Bool} (hc : Closed l L) : ∀ (y : Nat) (o : Oper), l[y]? = some o → (∀ j ∈ deps o, L j = true) → ∀ x, (ms.getD y 0).testBit x = true → L x = true := by
  intro y
  induction y using Nat.strongRecOn with
  | _ y ih =>
    intro o hy hd x hx
    obtain ⟨h1, h2⟩ := h.a y o hy
    obtain ⟨d, hd1, hd2⟩ := h2 x hx
    rcases hd2 with rfl | hd2
    · exact hd _ hd1
    · have hlt := h1 d hd1
      have hyl := (List.getElem?_eq_some_iff.1 hy).1
      have hdl : l[d]? = some (l[d]'(by omega)) := List.getElem?_eq_getElem _
      exact ih d hlt _ hdl (hc d _ hdl (hd d hd1)) x hd2
end
section
variable {P : Program} {G : Ghost} {n : Nat} {bl : List (Nat × Blk)}
def topU (b : Bool) (du : Nat) (vu : AV) (E : Env) : Env := bif b then (du, (True, vu)) :: E else E
theorem lexU {l : List Oper} {ms : List Nat} {tss : List (List Nat)} {m u du : Nat} {vu : AV} (hok : OrdU l ms tss m u du) (hml : m ≤ l.length) {vals env : Env} {Φ0 : Frz} {Qs : St → Prop} {Q' : Exit → Act → World → Prop} (hvl : vals.length = m) (hdn : du < n) (hen : lk env du = none)
    (hv : ∀ i o, i < m → l[i]? = some o → ∃ d p v, vals[i]? = some (d, (p, v)) ∧ o.dst = some d ∧ d < n ∧ GOk (St.mk n (only (tss.getD i []) (eL (fun j => decide (j < i)) 0 vals env)) bl) l.toArray o p ∧ PureOp P G (St.mk n (only (tss.getD i []) (eL (fun j => decide (j < i)) 0 vals env)) bl) o p v)
    (hu : ∀ o, l[u]? = some o → PureOp P G (St.mk n [] bl) o True vu)
    (Lm : Bool → List Bool) (hLl : ∀ b, (Lm b).length = l.length) (hLm : ∀ b j, j < l.length → (Lm b)[j]? = some (decide (j < m) || (b && decide (j = u))))
    (hK : ∀ b, RA P G l.toArray (l.length - m - (bif b then 1 else 0)) (Lm b) Qs (St.mk n (topU b du vu (eL (fun _ => true) 0 vals env)) bl))
    (hq : ∀ A' Φ' β' a' w', Qs A' → Sat G Φ' β' A' a' w' → Φ0.le Φ' → Q' .normal a' w') :
    ∀ (fuel : Nat) (L : Array Bool) (Φ : Frz) (β : Own) (a : Act) (w : World), fuel = un (fun j => L.getD j true) l.length → L.size = l.length → Closed l (fun j => L.getD j false) → (∀ j, m ≤ j → j < l.length → j ≠ u → L.getD j true = false) → Φ0.le Φ →
      Sat G Φ β (St.mk n (topU (L.getD u false) du vu (eL (fun j => L.getD j false) 0 vals env)) bl) a w → wpAny P .any l.toArray Q' fuel L a w := by
  obtain ⟨ou, hu1, hu2, hu3, hu4⟩ := hok.d
  have hul := (List.getElem?_eq_some_iff.1 hu1).1
  have hmu := hok.e
  have nodu : ∀ L k, lk (eL L k vals env) du = none := by
    intro L k
    have hw : ∀ (j : Nat) (x : Nat × (Prop × AV)), vals[j]? = some x → x.1 ≠ du := fun j x hj => by
      have hjm : j < m := by have := (List.getElem?_eq_some_iff.1 hj).1; omega
      obtain ⟨dj, pj, vj, q1, q2, _⟩ := hv j (l[j]'(by omega)) hjm (List.getElem?_eq_getElem _)
      obtain ⟨⟨d', e1, e2⟩, _⟩ := hok.b j _ (List.getElem?_eq_getElem (by omega)) hjm
      rw [q2] at e1
      obtain rfl := Option.some.inj e1
      rw [hj] at q1
      obtain rfl := Option.some.inj q1
      exact e2
    rw [eL_congr (L' := fun _ => false) vals k env env rfl fun j x hj hx => absurd hx (hw j x hj), eL_none, hen]
  have fall : ∀ {b : Bool} {L : Nat → Bool} {Φ : Frz} {β : Own} {a : Act} {w : World}, Sat G Φ β (St.mk n (topU b du vu (eL L 0 vals env)) bl) a w → Sat G Φ β (St.mk n (eL L 0 vals env) bl) a w := fun {b L Φ β a w} hs => by
    cases b with
    | false => exact hs
    | true =>
      refine hs.env_congr fun t e h => ?_
      show lk ((du, (True, vu)) :: eL L 0 vals env) t = some e
      rw [lk_cons]
      by_cases ht : du = t
      · subst ht; rw [nodu] at h; cases h
      · rw [if_neg ht]; exact h
  intro fuel
  induction fuel with
  | zero =>
    intro L Φ β a w hf hs hcl htl hle hsat
    have hall := un_zero _ hf.symm
    have hub : L.getD u false = true := by
      have : L.getD u true = true := hall u hul
      rw [Array.getD_eq_getD_getElem?, Array.getElem?_eq_getElem (by omega)] at this ⊢; exact this
    have hmm : l.length = m + 1 := by
      rcases Nat.lt_or_ge (m + 1) l.length with h | h
      · exfalso
        by_cases e : m = u
        · have h' : L.getD (m + 1) true = true := hall (m + 1) h
          rw [htl (m + 1) (by omega) h (by omega)] at h'; cases h'
        · have h' : L.getD m true = true := hall m (by omega)
          rw [htl m (Nat.le_refl _) (by omega) e] at h'; cases h'
      · omega
    have hLe : L = (Lm true).toArray := by
      apply Array.ext
      · simp [hs, hLl]
      · intro j h1 h2
        have hb : L.getD j true = true := hall j (by omega)
        rw [Array.getD_eq_getD_getElem?, Array.getElem?_eq_getElem h1] at hb
        have h3 := hLm true j (by omega)
        simp only [Option.getD_some] at hb
        rw [hb]
        simp only [List.getElem_toArray]
        have h2' : j < (Lm true).length := by simpa using h2
        rw [List.getElem?_eq_getElem h2'] at h3
        rw [Option.some.inj h3]
        have : j < m ∨ j = u := by omega
        rcases this with h | h <;> simp [h]
    have hr := hK true Φ β a w (by
      rw [hub] at hsat
      refine hsat.env_congr fun t e h => ?_
      rw [← h]
      show lk ((du, (True, vu)) :: eL _ 0 vals env) t = lk ((du, (True, vu)) :: eL _ 0 vals env) t
      rw [lk_cons, lk_cons]
      split
      · rfl
      · refine eL_congr vals 0 env env rfl fun j x hj hx => ?_
        have hjm : j < m := by have := (List.getElem?_eq_some_iff.1 hj).1; omega
        simp only [Nat.zero_add]
        have := hall j (by omega)
        rw [Array.getD_eq_getD_getElem?, Array.getElem?_eq_getElem (by omega)] at this ⊢; exact this) Q' fun A' Φ' β' a' w' q s le => hq A' Φ' β' a' w' q s (Frz.le_trans hle le)
    have hz : l.length - m - (bif true then 1 else 0) = 0 := by simp; omega
    rw [hz, ← hLe] at hr
    exact hr
  | succ fuel ih =>
    intro L Φ β a w hf hs hcl htl hle hsat
    have hLf : ∀ j, j < l.length → L.getD j false = L.getD j true := fun j hj => by
      rw [Array.getD_eq_getD_getElem?, Array.getD_eq_getD_getElem?, Array.getElem?_eq_getElem (by omega)]; rfl
    by_cases hpre : ∀ j, j < m → L.getD j true = true
    · have key : ∀ j, j < l.length → L.getD j true = (decide (j < m) || (L.getD u false && decide (j = u))) := fun j hj => by
        by_cases e : j < m
        · rw [hpre j e]; simp [e]
        · by_cases e2 : j = u
          · subst e2; rw [hLf j hj]; simp [e]
          · rw [htl j (by omega) hj e2]; simp [e, e2]
      have hLe : L = (Lm (L.getD u false)).toArray := by
        apply Array.ext
        · simp [hs, hLl]
        · intro j h1 h2
          have hb := key j (by omega)
          rw [Array.getD_eq_getD_getElem?, Array.getElem?_eq_getElem h1] at hb
          have h3 := hLm (L.getD u false) j (by omega)
          simp only [Option.getD_some] at hb
          rw [hb]
          simp only [List.getElem_toArray]
          have h2' : j < (Lm (L.getD u false)).length := by simpa using h2
          rw [List.getElem?_eq_getElem h2'] at h3
          exact (Option.some.inj h3).symm
      have hr := hK (L.getD u false) Φ β a w (by
        refine hsat.env_congr fun t e h => ?_
        rw [← h]
        have ec : lk (eL (fun j => L.getD j false) 0 vals env) t = lk (eL (fun _ => true) 0 vals env) t := eL_congr vals 0 env env rfl fun j x hj hx => by
          have hjm : j < m := by have := (List.getElem?_eq_some_iff.1 hj).1; omega
          simp only [Nat.zero_add]
          rw [hLf j (by omega), hpre j hjm]
        generalize L.getD u false = b
        cases b with
        | false => exact ec
        | true =>
          show lk ((du, (True, vu)) :: eL _ 0 vals env) t = lk ((du, (True, vu)) :: eL _ 0 vals env) t
          rw [lk_cons, lk_cons, ec]) Q' fun A' Φ' β' a' w' q s le => hq A' Φ' β' a' w' q s (Frz.le_trans hle le)
      have hz : l.length - m - (bif L.getD u false then 1 else 0) = fuel + 1 := by
        rw [hf]
        cases hb : L.getD u false with
        | false =>
          rw [un_congr (L' := fun j => decide (j < m)) _ (fun j hj => by rw [key j hj, hb]; simp), un_lt _ hml]; simp
        | true =>
          have h1 := un_lt (m := m) l.length hml
          have h2 := un_set (L := fun j => decide (j < m)) (L' := fun j => decide (j < m) || decide (j = u)) (i := u) (by simp; omega) (by simp) (fun j hj => by simp [hj]) l.length hul
          rw [un_congr (L' := fun j => decide (j < m) || decide (j = u)) _ (fun j hj => by rw [key j hj, hb]; simp)]
          simp; omega
      rw [hz, ← hLe] at hr
      exact hr
    · -- some early operation is not listed yet; the first of them
      have hex : ∃ y, y < m ∧ L.getD y true = false ∧ ∀ j, j < y → L.getD j true = true := by
        have : ∃ j, j < m ∧ L.getD j true = false := by
          refine Classical.byContradiction fun hno => hpre fun j hj => ?_
          cases hb : L.getD j true with
          | true => rfl
          | false => exact absurd ⟨j, hj, hb⟩ hno
        obtain ⟨j0, hj0, hb0⟩ := this
        have key : ∀ k, k ≤ m → (∀ j, j < k → L.getD j true = true) ∨ ∃ y, y < m ∧ L.getD y true = false ∧ ∀ j, j < y → L.getD j true = true := by
          intro k
          induction k with
          | zero => intro _; exact .inl fun j hj => by omega
          | succ k ihk =>
            intro hk
            rcases ihk (by omega) with h | h
            · cases hb : L.getD k true with
              | true =>
                refine .inl fun j hj => ?_
                by_cases e : j = k
                · rw [e]; exact hb
                · exact h j (by omega)
              | false => exact .inr ⟨k, by omega, hb, h⟩
            · exact .inr h
        rcases key m (Nat.le_refl _) with h | h
        · have := h j0 hj0; rw [hb0] at this; cases this
        · exact h
      obtain ⟨y, hym, hyu, hyl⟩ := hex
      have hylen : y < l.length := by omega
      refine ⟨fun hr => ?_, fun i hi => ?_⟩
      · exfalso
        have hmem : y ∈ Region.ready .any l.toArray L := ready_mk (o := l[y]) (List.getElem?_eq_getElem _) hyu (fun j hj => by
          have := (hok.a y _ (List.getElem?_eq_getElem hylen)).1 j hj
          rw [hLf j (by omega)]; exact hyl j this)
        rw [hr] at hmem; cases hmem
      · obtain ⟨o, h1, h2, h3⟩ := mem_ready' hi
        have hil := (List.getElem?_eq_some_iff.1 h1).1
        by_cases hiu : i = u
        · subst hiu
          rw [h1] at hu1
          obtain rfl := Option.some.inj hu1
          have hLi : L.getD i false = false := by rw [hLf i hil]; exact h2
          rw [hLi] at hsat
          have hsub : Sat G Φ β (St.mk n [] bl) a w := hsat.env_congr fun t e h => by simp [lk] at h
          have g4 : GOk (St.mk n [] bl) l.toArray o True := GOk.none hu4
          have hw := g4 G Φ β a w hsub
          have g5 := hu o h1
          have next : ∀ (Φ' : Frz) (x : Value) (w' : World), Φ.le Φ' → Sat G Φ' β (St.mk n ((du, (True, vu)) :: eL (fun j => L.getD j false) 0 vals env) bl) (a.put (some du) x) w' → wpAny P .any l.toArray Q' fuel (L.setIfInBounds i true) (a.put (some du) x) w' := fun Φ' x w' hle' hsat' => by
            have hne : ∀ j, j ≠ i → ∀ b, (L.setIfInBounds i true).getD j b = L.getD j b := fun j hj b => getD_set_ne b (Ne.symm hj)
            have heq : ∀ b, (L.setIfInBounds i true).getD i b = true := fun b => by rw [Array.getD_eq_getD_getElem?, Array.getElem?_setIfInBounds_self_of_lt (by omega)]; rfl
            refine ih _ Φ' β _ w' ?_ (by simpa using hs) (fun y' o' hy' hL' j hj => ?_) (fun j hmj hjl hju => by rw [hne j hju]; exact htl j hmj hjl hju) (Frz.le_trans hle hle') ?_
            · have := un_set (L := fun j => L.getD j true) (L' := fun j => (L.setIfInBounds i true).getD j true) (i := i) h2 (heq true) (fun j hj => hne j hj true) l.length hil
              omega
            · show (L.setIfInBounds i true).getD j false = true
              by_cases e1 : j = i
              · subst e1; exact heq false
              · rw [hne j e1]
                by_cases e2 : y' = i
                · subst e2
                  rw [h1] at hy'
                  obtain rfl := Option.some.inj hy'
                  exact h3 j hj
                · have hL'' : L.getD y' false = true := by rw [← hne y' e2 false]; exact hL'
                  exact hcl y' o' hy' hL'' j hj
            · rw [heq]
              refine hsat'.env_congr fun t e h => ?_
              rw [← h]
              show lk ((du, (True, vu)) :: eL _ 0 vals env) t = lk ((du, (True, vu)) :: eL _ 0 vals env) t
              rw [lk_cons, lk_cons]
              split
              · rfl
              · refine eL_congr vals 0 env env rfl fun j x hj hx => ?_
                have hjm : j < m := by have := (List.getElem?_eq_some_iff.1 hj).1; omega
                simp only [Nat.zero_add]
                rw [hne j (by omega)]
          unfold wpOp
          have hio : l.toArray[i]? = some o := by simpa using h1
          simp only [hio]
          rw [if_pos (hw.2 trivial)]
          refine .inl (Oper.wp_mono' (g5 Φ β a w hsub trivial) (fun a' w' ⟨x, Φ', ha, hvv, hle', heq, hf', hb⟩ => ?_) (fun _ _ _ h => h.elim))
          subst ha
          rw [hu2]
          exact next Φ' x w' hle' (hsat.set hle' heq hf' hb hdn (fun _ => hvv) (fun hx => (hx trivial).elim))
        have him : i < m := by
          rcases Nat.lt_or_ge i m with h | h
          · exact h
          · exfalso
            have hanc := hok.c i o h1 h hiu y hym
            have := closedU hok hcl i o h1 h3 y hanc
            have this : L.getD y false = true := this
            rw [hLf y hylen, hyu] at this; cases this
        obtain ⟨d, p, v, g1, g2, g3, g4, g5⟩ := hv i o him h1
        obtain ⟨⟨d0, hd0, hdu⟩, hlooks, hord⟩ := hok.b i o h1 him
        rw [g2] at hd0
        obtain rfl := Option.some.inj hd0
        have hLi : L.getD i false = false := by rw [hLf i hil]; exact h2
        -- who writes what this operation looks at, or writes
        have before : ∀ j x, vals[j]? = some x → (x.1 ∈ looks l.toArray o ∨ x.1 = d) → j ≠ i → L.getD j false = decide (j < i) := fun j x hj hx hne => by
          have hjm : j < m := by have := (List.getElem?_eq_some_iff.1 hj).1; omega
          have hjl : j < l.length := by omega
          have hoj : l[j]? = some l[j] := List.getElem?_eq_getElem _
          obtain ⟨dj, pj, vj, q1, q2, _⟩ := hv j l[j] hjm hoj
          rw [hj] at q1
          obtain rfl := Option.some.inj q1
          simp only at hx
          rcases Nat.lt_or_ge j i with hlt | hge
          · have hc : clash l.toArray l[j] o = true := by
              unfold clash
              rw [q2, g2]
              rcases hx with hx | hx
              · have : (looks l.toArray o).any (Nat.beq dj) = true := List.any_eq_true.2 ⟨dj, hx, Nat.beq_refl _⟩
                simp [this]
              · subst hx; simp
            have := closedU hok hcl i o h1 h3 j (hord j _ hlt hoj hc)
            have this : L.getD j false = true := this
            rw [this]; simp [hlt]
          · have hgt : i < j := by omega
            have hc : clash l.toArray o l[j] = true := by
              unfold clash
              rw [q2, g2]
              rcases hx with hx | hx
              · have : (looks l.toArray o).any (Nat.beq dj) = true := List.any_eq_true.2 ⟨dj, hx, Nat.beq_refl _⟩
                simp [this]
              · subst hx; simp
            cases hb : L.getD j false with
            | false => simp; omega
            | true =>
              exfalso
              have hordj := (hok.b j _ hoj hjm).2.2 i o hgt h1 hc
              have := closedU hok hcl j _ hoj (hcl j _ hoj hb) i hordj
              have this : L.getD i false = true := this
              rw [hLi] at this; cases this
        have hsub : Sat G Φ β (St.mk n (only (tss.getD i []) (eL (fun j => decide (j < i)) 0 vals env)) bl) a w := (fall hsat).env_congr fun t e h => by
          obtain ⟨ht, he⟩ := lk_only h
          rw [← he]
          refine eL_congr vals 0 env env rfl fun j x hj hx => ?_
          simp only [Nat.zero_add]
          by_cases hji : j = i
          · subst hji; rw [hLi]; simp
          · rcases (hlooks t ht).2 with hl1 | hl2
            · exact before j x hj (.inl (by rw [hx]; exact hl1)) hji
            · exfalso
              have hjm : j < m := by have := (List.getElem?_eq_some_iff.1 hj).1; omega
              have hoj : l[j]? = some (l[j]'(by omega)) := List.getElem?_eq_getElem _
              obtain ⟨dj, pj, vj, q1, q2, _⟩ := hv j _ hjm hoj
              rw [hj] at q1
              obtain rfl := Option.some.inj q1
              exact hl2 j _ hoj (by rw [q2]; simp only at hx; rw [hx])
        have hw := g4 G Φ β a w hsub
        have next : ∀ (Φ' : Frz) (x : Value) (w' : World), Φ.le Φ' → Sat G Φ' β (St.mk n ((d, (p, v)) :: topU (L.getD u false) du vu (eL (fun j => L.getD j false) 0 vals env)) bl) (a.put (some d) x) w' → wpAny P .any l.toArray Q' fuel (L.setIfInBounds i true) (a.put (some d) x) w' := fun Φ' x w' hle' hsat' => by
          have hne : ∀ j, j ≠ i → ∀ b, (L.setIfInBounds i true).getD j b = L.getD j b := fun j hj b => getD_set_ne b (Ne.symm hj)
          have heq : ∀ b, (L.setIfInBounds i true).getD i b = true := fun b => by rw [Array.getD_eq_getD_getElem?, Array.getElem?_setIfInBounds_self_of_lt (by omega)]; rfl
          refine ih _ Φ' β _ w' ?_ (by simpa using hs) (fun y' o' hy' hL' j hj => ?_) (fun j hmj hjl hju => by rw [hne j (by omega)]; exact htl j hmj hjl hju) (Frz.le_trans hle hle') ?_
          · have := un_set (L := fun j => L.getD j true) (L' := fun j => (L.setIfInBounds i true).getD j true) (i := i) h2 (heq true) (fun j hj => hne j hj true) l.length hil
            omega
          · by_cases e1 : j = i
            · subst e1; exact heq false
            · show (L.setIfInBounds i true).getD j false = true
              rw [hne j e1]
              by_cases e2 : y' = i
              · subst e2
                rw [h1] at hy'
                obtain rfl := Option.some.inj hy'
                exact h3 j hj
              · have hL'' : L.getD y' false = true := by rw [← hne y' e2 false]; exact hL'
                exact hcl y' o' hy' hL'' j hj
          · rw [hne u (by omega)]
            refine hsat'.env_congr fun t e h => ?_
            have peel : ∀ (E : Env), t ≠ du → lk (topU (L.getD u false) du vu E) t = lk E t := fun E ht => by
              cases L.getD u false with
              | false => rfl
              | true => show lk ((du, (True, vu)) :: E) t = lk E t; rw [lk_cons, if_neg (Ne.symm ht)]
            by_cases etu : t = du
            · subst etu
              rw [lk_cons, if_neg hdu]
              revert h
              cases L.getD u false with
              | false =>
                intro h
                have h : lk (eL (fun j => (L.setIfInBounds i true).getD j false) 0 vals env) t = some e := h
                rw [nodu] at h; cases h
              | true =>
                intro h
                have h : lk ((t, (True, vu)) :: eL (fun j => (L.setIfInBounds i true).getD j false) 0 vals env) t = some e := h
                show lk ((t, (True, vu)) :: eL _ 0 vals env) t = some e
                rw [lk_cons, if_pos rfl] at h ⊢
                exact h
            rw [peel _ etu] at h
            by_cases e1 : t = d
            · subst e1
              have hl1 : lk (eL (fun j => (L.setIfInBounds i true).getD j false) 0 vals env) t = lk (eL (fun j => decide (j < 0 + i + 1)) 0 vals env) t := eL_congr vals 0 env env rfl fun j x hj hx => by
                simp only [Nat.zero_add]
                by_cases hji : j = i
                · subst hji; rw [heq]; simp
                · rw [hne j hji, before j x hj (.inr hx) hji]
                  simp only [decide_eq_decide]; omega
              rw [hl1, eL_lt vals 0 i env _ g1, lk_cons, if_pos rfl] at h
              rw [lk_cons, if_pos rfl]; exact h
            · rw [lk_cons, if_neg (Ne.symm e1), peel _ etu, ← h]
              refine eL_congr vals 0 env env rfl fun j x hj hx => ?_
              simp only [Nat.zero_add]
              by_cases hji : j = i
              · subst hji
                rw [hj] at g1
                obtain rfl := Option.some.inj g1
                exact absurd hx.symm e1
              · rw [hne j hji]
        unfold wpOp
        have hio : l.toArray[i]? = some o := by simpa using h1
        simp only [hio]
        by_cases hpp : p
        · rw [if_pos (hw.2 hpp)]
          refine .inl (Oper.wp_mono' (g5 Φ β a w hsub hpp) (fun a' w' ⟨x, Φ', ha, hvv, hle', heq, hf', hb⟩ => ?_) (fun _ _ _ h => h.elim))
          subst ha
          rw [g2]
          exact next Φ' x w' hle' (hsat.set hle' heq hf' hb g3 (fun _ => hvv) (fun hx => (hx hpp).elim))
        · rw [if_neg (fun hx => hpp (hw.1 hx)), g2]
          exact next Φ undef w Φ.le_refl (hsat.set Φ.le_refl (fun _ _ => rfl) hsat.fits (Below.refl _ _) g3 (fun hx => (hpp hx).elim) (fun _ => rfl))


def RA2 (X Y : Prop) : Prop := X ∧ Y
theorem RA2.mk {X Y : Prop} (h : X) (h' : Y) : RA2 X Y := ⟨h, h'⟩
/-- A REGION WHOSE ORDER IS OPEN: the first m operations in the text's order; the constant u at any time; the others way by way. -/
theorem W.drawU {id : Nat} {l : List Oper} {env : Env} {Q : Exit → St → Prop} (ms : List Nat) (tss : List (List Nat)) (m u du : Nat) (vu : AV) (sg : List (Nat × Nat)) (k0 k1 : Nat) (L0 L1 : List Bool) (hm : P.follows .mixedOrders = true) (hok : orderU l ms tss m u du sg = true) (hml : Nat.ble m l.length = true) (hsg : Nat.beq sg.length m = true)
    (hdn : Nat.blt du n = true) (hen : lk env du = none) (hL0 : (List.range l.length).map (fun j => Nat.blt j m) = L0) (hL1 : (List.range l.length).map (fun j => Nat.blt j m || Nat.beq j u) = L1) (hk0 : l.length - m = k0) (hk1 : l.length - m - 1 = k1)
    (hu : ∀ o, l[u]? = some o → PureOp P G (St.mk n [] bl) o True vu)
    (h : Lex P G l.toArray n bl (l.take m) tss env fun env' => RA2 (RA P G l.toArray k0 L0 (Q .normal) (St.mk n env' bl)) (RA P G l.toArray k1 L1 (Q .normal) (St.mk n ((du, (True, vu)) :: env') bl))) : W P G (.region id l.toArray true) Q (St.mk n env bl) := fun Φ β a w hs => by
  have hml := Nat.le_of_ble_eq_true hml
  subst hL0 hL1 hk0 hk1
  have hok := OrdU.of hsg hok
  obtain ⟨vals, h1, h2, h3⟩ := Lex.vals h
  have hvl : vals.length = m := by rw [h1]; simp; omega
  refine wp_region_any hm ?_
  have hsz : l.toArray.size = l.length := by simp
  rw [hsz]
  have hbl : ∀ x y, Nat.blt x y = decide (x < y) := fun x y => by
    by_cases h : x < y
    · rw [decide_eq_true h]; simpa [Nat.blt_eq] using h
    · rw [decide_eq_false h]
      cases hb : Nat.blt x y with
      | false => rfl
      | true => exact absurd (blt_lt hb) h
  have hbe : ∀ x y, Nat.beq x y = decide (x = y) := fun x y => by
    by_cases h : x = y
    · subst h; simp
    · rw [decide_eq_false h]
      cases hb : Nat.beq x y with
      | false => rfl
      | true => exact absurd (Nat.eq_of_beq_eq_true hb) h
  refine lexU hok hml hvl (blt_lt hdn) hen (fun i o him ho => h3 i o (by rw [List.getElem?_take, if_pos him]; exact ho)) hu
    (fun b => bif b then (List.range l.length).map (fun j => Nat.blt j m || Nat.beq j u) else (List.range l.length).map (fun j => Nat.blt j m)) (fun b => by cases b <;> simp) (fun b j hj => by cases b <;> simp [hj, hbl, hbe])
    (fun b => by cases b with | false => exact h2.1 | true => exact h2.2) (Φ0 := Φ) (fun A' Φ' β' a' w' q s le => ⟨A', Φ', β', q, s, le⟩) l.length (Array.replicate l.length false) Φ β a { w with drawn := w.drawn + 1 } ?_ (by simp) (fun y o hy hL => ?_) (fun j _ hj _ => by simp [hj]) Φ.le_refl ?_
  · have : un (fun j => (Array.replicate l.length false).getD j true) l.length = un (fun j => decide (j < 0)) l.length := un_congr _ fun j hj => by simp [hj]
    rw [this, un_lt _ (Nat.zero_le _)]; omega
  · have : (Array.replicate l.length false).getD y false = true := hL
    rw [Array.getD_eq_getD_getElem?, Array.getElem?_replicate] at this
    split at this <;> simp at this
  · have hf : ∀ j, (Array.replicate l.length false).getD j false = false := fun j => by
      rw [Array.getD_eq_getD_getElem?, Array.getElem?_replicate]
      split <;> rfl
    rw [hf u]
    have hnone : eL (fun j => (Array.replicate l.length false).getD j false) 0 vals env = env := by
      have : (fun j => (Array.replicate l.length false).getD j false) = fun _ => false := funext hf
      rw [this, eL_none]
    rw [hnone]
    exact ⟨hs.kept.drew, hs.fits, hs.old, hs.siz, hs.dfr, hs.env, hs.blk, hs.vir, hs.inj⟩
end
/-- Ways that meet again, the code behind being on the stack already. -/
theorem cutK {P : Program} {G : Ghost} {A : St} {Q Q' : Exit → St → Prop} {x y : Code} {σ : Type _} (n : Nat) (keep : List Nat) (inv : σ → Prop) (f : σ → List (Nat × (Prop × AV))) (bl : σ → List (Nat × Blk)) {E : List (Nat × (Prop × AV))} (hp : Pick A keep E)
    (hx : Lf.W P G x (Then (fun A' => ∃ s', inv s' ∧ Le A' (mkSt n (f s') E (bl s'))) Q') A) (hy : ∀ s, inv s → Lf.W P G y Q (mkSt n (f s) E (bl s))) : Lf.W P G x (Then (Lf.W P G y Q) Q') A :=
  Lf.W.mono hx fun e A' h => by
    cases e with
    | normal => obtain ⟨s', h1, h2⟩ := h; exact Lf.W.weaken h2 (hy s' h1)
    | exit id => exact h
    | goto id => exact h
    | ret => exact h
    | panic c => exact h
    | outgrown => exact h
end Lf
