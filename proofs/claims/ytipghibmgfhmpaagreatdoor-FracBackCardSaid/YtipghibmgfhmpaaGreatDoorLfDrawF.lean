/-
  Regions whose order is open, with literals of slices among the first operations, and a tail that is forced.
-/
import Derived.Test.YtipghibmgfhmpaaGreatDoorLfDrawE
set_option linter.unusedVariables false
set_option linter.unusedSimpArgs false
namespace Lf
open Go Go.RowKit
section
variable {P : Program} {G : Ghost} {ops : Array Oper} {n : Nat} {bl : List (Nat × Blk)} {effs : Effs}
theorem lexF {l : List Oper} {ms : List Nat} {tss : List (List Nat)} {m : Nat} (hok : orderOk l ms tss m = true) (hml : m ≤ l.length) {vals env : Env} {Φ0 : Frz} {Qs : St → Prop} {Q' : Exit → Act → World → Prop} (hvl : vals.length = m) (ho : EffsOk effs bl)
    (hv : ∀ i o, i < m → l[i]? = some o → ∃ d p v, vals[i]? = some (d, (p, v)) ∧ o.dst = some d ∧ d < n ∧ StepE P G l.toArray n bl effs i (ms.getD i 0) (only (tss.getD i []) (eL (fun j => decide (j < i)) 0 vals env)) o d p v)
    (hin : ∀ x ∈ effs, x.1 < m)
    (hK : RG P G l.toArray (l.drop m) Qs (St.mk n (eL (fun _ => true) 0 vals env) (bL (fun _ => true) effs bl)))
    (hq : ∀ A' Φ' β' a' w', Qs A' → Sat G Φ' β' A' a' w' → Φ0.le Φ' → Q' .normal a' w') :
    ∀ (fuel : Nat) (L : Array Bool) (Φ : Frz) (β : Own) (a : Act) (w : World), fuel = un (fun j => L.getD j true) l.length → L.size = l.length → Closed l (fun j => L.getD j false) → (∀ j, m ≤ j → j < l.length → L.getD j true = false) → Φ0.le Φ →
      Sat G Φ β (St.mk n (eL (fun j => L.getD j false) 0 vals env) (bL (fun j => L.getD j false) effs bl)) a w → wpAny P .any l.toArray Q' fuel L a w := by
  have fin : ∀ (L : Nat → Bool) (Φ : Frz) (β : Own) (a : Act) (w : World), (∀ j, j < m → L j = true) → Sat G Φ β (St.mk n (eL L 0 vals env) (bL L effs bl)) a w → Sat G Φ β (St.mk n (eL (fun _ => true) 0 vals env) (bL (fun _ => true) effs bl)) a w := fun L Φ β a w hallf hsat => by
    refine hsat.subB (fun k C hk => ?_) fun t q v h => ⟨?_, fun k hk => ?_⟩
    · rcases (lk_bL ho).1 hk with ⟨e, h1, _⟩ | h
      · exact (lk_bL ho).2 (.inl ⟨e, h1, hallf e (hin _ h1)⟩)
      · exact (lk_bL ho).2 (.inr h)
    · rw [← h]
      refine eL_congr vals 0 env env rfl fun j x hj hx => ?_
      have hjl : j < m := by have := (List.getElem?_eq_some_iff.1 hj).1; omega
      simp only [Nat.zero_add]; exact hallf j hjl
    · refine Option.ext fun C => ?_
      rw [lk_bL ho, lk_bL ho]
      constructor
      · rintro (⟨e, h1, _⟩ | h)
        · exact .inl ⟨e, h1, hallf e (hin _ h1)⟩
        · exact .inr h
      · rintro (⟨e, h1, _⟩ | h)
        · exact .inl ⟨e, h1, rfl⟩
        · exact .inr h
  intro fuel
  induction fuel with
  | zero =>
    intro L Φ β a w hf hs hcl htl hle hsat
    have hall := un_zero _ hf.symm
    have hm : m = l.length := by
      rcases Nat.lt_or_ge m l.length with h | h
      · have h' : L.getD m true = true := hall m h
        rw [htl m (Nat.le_refl _) h] at h'; cases h'
      · omega
    have hallf : ∀ j, j < m → L.getD j false = true := fun j hj => by
      have := hall j (by omega)
      rw [Array.getD_eq_getD_getElem?, Array.getElem?_eq_getElem (by omega)] at this ⊢; exact this
    refine forced hok 0 m L a w (by omega) (Nat.le_refl _) hml hs (fun j hj => by have h' : L.getD j true = true := hall j hj; rw [h']; simp; omega) ?_
    exact hK Φ β a w (fin _ Φ β a w hallf hsat) Q' fun A' Φ' β' a' w' q s le => hq A' Φ' β' a' w' q s (Frz.le_trans hle le)
  | succ fuel ih =>
    intro L Φ β a w hf hs hcl htl hle hsat
    have hLf : ∀ j, j < l.length → L.getD j false = L.getD j true := fun j hj => by
      rw [Array.getD_eq_getD_getElem?, Array.getD_eq_getD_getElem?, Array.getElem?_eq_getElem (by omega)]; rfl
    by_cases hpre : ∀ j, j < m → L.getD j true = true
    · refine forced hok (fuel + 1) m L a w ?_ (Nat.le_refl _) hml hs (fun j hj => ?_) ?_
      · rw [hf, un_congr (L' := fun j => decide (j < m)) _ (fun j hj => ?_), un_lt _ hml]
        by_cases e : j < m
        · rw [hpre j e]; simp [e]
        · rw [htl j (by omega) hj]; simp [e]
      · by_cases e : j < m
        · rw [hpre j e]; simp [e]
        · rw [htl j (by omega) hj]; simp [e]
      · exact hK Φ β a w (fin _ Φ β a w (fun j hj => by rw [hLf j (by omega)]; exact hpre j hj) hsat) Q' fun A' Φ' β' a' w' q s le => hq A' Φ' β' a' w' q s (Frz.le_trans hle le)
    · have hex : ∃ y, y < m ∧ L.getD y true = false ∧ ∀ j, j < y → L.getD j true = true := by
        have : ∃ j, j < m ∧ L.getD j true = false := by
          refine Classical.byContradiction fun hno => hpre fun j hj => ?_
          cases hb : L.getD j true with
          | true => rfl
          | false => exact absurd ⟨j, hj, hb⟩ hno
        obtain ⟨j0, hj0, hb0⟩ := this
        have key : ∀ k, k ≤ m → (∀ j, j < k → L.getD j true = true) ∨ ∃ y, y < m ∧ L.getD y true = false ∧ ∀ j, j < y → L.getD j true = true := by
          intro k
          induction k with
          | zero => intro _; exact .inl fun j hj => by omega
          | succ k ihk =>
            intro hk
            rcases ihk (by omega) with h | h
            · cases hb : L.getD k true with
              | true =>
                refine .inl fun j hj => ?_
                by_cases e : j = k
                · rw [e]; exact hb
                · exact h j (by omega)
              | false => exact .inr ⟨k, by omega, hb, h⟩
            · exact .inr h
        rcases key m (Nat.le_refl _) with h | h
        · have := h j0 hj0; rw [hb0] at this; cases this
        · exact h
      obtain ⟨y, hym, hyu, hyl⟩ := hex
      have hylen : y < l.length := by omega
      refine ⟨fun hr => ?_, fun i hi => ?_⟩
      · exfalso
        have hmem : y ∈ Region.ready .any l.toArray L := ready_mk (o := l[y]) (List.getElem?_eq_getElem _) hyu (fun j hj => by
          have := (orderOk_at hok (List.getElem?_eq_getElem hylen)).1 j hj
          rw [hLf j (by omega)]; exact hyl j this)
        rw [hr] at hmem; cases hmem
      · obtain ⟨o, h1, h2, h3⟩ := mem_ready' hi
        have hil := (List.getElem?_eq_some_iff.1 h1).1
        have him : i < m := by
          rcases Nat.lt_or_ge i m with h | h
          · exact h
          · exfalso
            have hanc := (orderOk_at hok h1).2.2.2 h y (by omega)
            have := closed_anc hok hcl i o h1 h3 y hanc
            have this : L.getD y false = true := this
            rw [hLf y hylen, hyu] at this; cases this
        obtain ⟨d, p, v, g1, g2, g3, g4, g5, g6⟩ := hv i o him h1
        obtain ⟨_, hlooks, hord⟩ := (orderOk_at hok h1).2.2.1 him
        have hLi : L.getD i false = false := by rw [hLf i hil]; exact h2
        -- who writes what this operation looks at, or writes
        have before : ∀ j x, vals[j]? = some x → (x.1 ∈ looks l.toArray o ∨ x.1 = d) → j ≠ i → L.getD j false = decide (j < i) := fun j x hj hx hne => by
          have hjm : j < m := by have := (List.getElem?_eq_some_iff.1 hj).1; omega
          have hjl : j < l.length := by omega
          have hoj : l[j]? = some l[j] := List.getElem?_eq_getElem _
          obtain ⟨dj, pj, vj, q1, q2, _⟩ := hv j l[j] hjm hoj
          rw [hj] at q1
          obtain rfl := Option.some.inj q1
          simp only at hx
          rcases Nat.lt_or_ge j i with hlt | hge
          · have hc : clash l.toArray l[j] o = true := by
              unfold clash
              rw [q2, g2]
              rcases hx with hx | hx
              · have : (looks l.toArray o).any (Nat.beq dj) = true := List.any_eq_true.2 ⟨dj, hx, Nat.beq_refl _⟩
                simp [this]
              · subst hx; simp
            have := closed_anc hok hcl i o h1 h3 j (hord j _ hlt hoj hc)
            have this : L.getD j false = true := this
            rw [this]; simp [hlt]
          · have hgt : i < j := by omega
            have hc : clash l.toArray o l[j] = true := by
              unfold clash
              rw [q2, g2]
              rcases hx with hx | hx
              · have : (looks l.toArray o).any (Nat.beq dj) = true := List.any_eq_true.2 ⟨dj, hx, Nat.beq_refl _⟩
                simp [this]
              · subst hx; simp
            cases hb : L.getD j false with
            | false => simp; omega
            | true =>
              exfalso
              have hordj := ((orderOk_at hok hoj).2.2.1 hjm).2.2 i o hgt h1 hc
              have := closed_anc hok hcl j _ hoj (hcl j _ hoj hb) i hordj
              have this : L.getD i false = true := this
              rw [hLi] at this; cases this
        have hsame : ∀ t e, lk (only (tss.getD i []) (eL (fun j => decide (j < i)) 0 vals env)) t = some e → lk (eL (fun j => L.getD j false) 0 vals env) t = some e := fun t e h => by
          obtain ⟨ht, he⟩ := lk_only h
          rw [← he]
          refine eL_congr vals 0 env env rfl fun j x hj hx => ?_
          simp only [Nat.zero_add]
          by_cases hji : j = i
          · subst hji; rw [hLi]; simp
          · rcases hlooks t ht with hl1 | hl2
            · exact before j x hj (.inl (by rw [hx]; exact hl1)) hji
            · exfalso
              have hjm : j < m := by have := (List.getElem?_eq_some_iff.1 hj).1; omega
              have hoj : l[j]? = some (l[j]'(by omega)) := List.getElem?_eq_getElem _
              obtain ⟨dj, pj, vj, q1, q2, _⟩ := hv j _ hjm hoj
              rw [hj] at q1
              obtain rfl := Option.some.inj q1
              exact hl2 j _ hoj (by rw [q2]; simp only at hx; rw [hx])
        have anc : ∀ e, bitN (ms.getD i 0) e = true → L.getD e false = true := fun e he => closed_anc hok hcl i o h1 h3 e (by rw [← bitN_eq]; exact he)
        have incl : ∀ k C, lk (bL (bitN (ms.getD i 0)) effs bl) k = some C → lk (bL (fun j => L.getD j false) effs bl) k = some C := fun k C hk => by
          rcases (lk_bL ho).1 hk with ⟨e, h5, h6⟩ | h
          · exact (lk_bL ho).2 (.inl ⟨e, h5, anc e h6⟩)
          · exact (lk_bL ho).2 (.inr h)
        have hsub : Sat G Φ β (St.mk n (only (tss.getD i []) (eL (fun j => decide (j < i)) 0 vals env)) (bL (bitN (ms.getD i 0)) effs bl)) a w := hsat.subB incl fun t q v hl => ⟨hsame t _ hl, fun k hk => by
          refine Option.ext fun C => ⟨incl k C, fun h => ?_⟩
          rcases (lk_bL ho).1 h with ⟨e, h5, h6⟩ | h
          · cases hb : bitN (ms.getD i 0) e with
            | true => exact (lk_bL ho).2 (.inl ⟨e, h5, hb⟩)
            | false => have := g6 _ h5 hb t _ hl; rw [hk] at this; cases this
          · exact (lk_bL ho).2 (.inr h)⟩
        have hw := g4 G Φ β a w hsub
        have hne : ∀ j, j ≠ i → ∀ b, (L.setIfInBounds i true).getD j b = L.getD j b := fun j hj b => getD_set_ne b (Ne.symm hj)
        have heq : ∀ b, (L.setIfInBounds i true).getD i b = true := fun b => by rw [Array.getD_eq_getD_getElem?, Array.getElem?_setIfInBounds_self_of_lt (by omega)]; rfl
        have envn : ∀ t e, lk (eL (fun j => (L.setIfInBounds i true).getD j false) 0 vals env) t = some e → lk ((d, (p, v)) :: eL (fun j => L.getD j false) 0 vals env) t = some e := fun t e h => by
          by_cases e1 : t = d
          · subst e1
            have hl1 : lk (eL (fun j => (L.setIfInBounds i true).getD j false) 0 vals env) t = lk (eL (fun j => decide (j < 0 + i + 1)) 0 vals env) t := eL_congr vals 0 env env rfl fun j x hj hx => by
              simp only [Nat.zero_add]
              by_cases hji : j = i
              · subst hji; rw [heq]; simp
              · rw [hne j hji, before j x hj (.inr hx) hji]
                simp only [decide_eq_decide]; omega
            rw [hl1, eL_lt vals 0 i env _ g1, lk_cons, if_pos rfl] at h
            rw [lk_cons, if_pos rfl]; exact h
          · rw [lk_cons, if_neg (Ne.symm e1), ← h]
            refine eL_congr vals 0 env env rfl fun j x hj hx => ?_
            simp only [Nat.zero_add]
            by_cases hji : j = i
            · subst hji
              rw [hj] at g1
              obtain rfl := Option.some.inj g1
              exact absurd hx.symm e1
            · rw [hne j hji]
        have next : ∀ (Φ' : Frz) (β' : Own) (a' : Act) (w' : World) (bl' : List (Nat × Blk)), Φ.le Φ' → Sat G Φ' β' (St.mk n ((d, (p, v)) :: eL (fun j => L.getD j false) 0 vals env) bl') a' w' → (∀ k, lk (bL (fun j => (L.setIfInBounds i true).getD j false) effs bl) k = lk bl' k) → wpAny P .any l.toArray Q' fuel (L.setIfInBounds i true) a' w' := fun Φ' β' a' w' bl' hle' hsat' hbl => by
          refine ih _ Φ' β' a' w' ?_ (by simpa using hs) (fun y' o' hy' hL' j hj => ?_) (fun j hmj hjl => by rw [hne j (by omega)]; exact htl j hmj hjl) (Frz.le_trans hle hle') (hsat'.subB (fun k C h => by rw [← hbl]; exact h) fun t q v' h => ⟨envn t _ h, fun k _ => hbl k⟩)
          · have := un_set (L := fun j => L.getD j true) (L' := fun j => (L.setIfInBounds i true).getD j true) (i := i) h2 (heq true) (fun j hj => hne j hj true) l.length hil
            omega
          · by_cases e1 : j = i
            · subst e1; exact heq false
            · show (L.setIfInBounds i true).getD j false = true
              rw [hne j e1]
              by_cases e2 : y' = i
              · subst e2
                rw [h1] at hy'
                obtain rfl := Option.some.inj hy'
                exact h3 j hj
              · have hL'' : L.getD y' false = true := by rw [← hne y' e2 false]; exact hL'
                exact hcl y' o' hy' hL'' j hj
        unfold wpOp
        have hio : l.toArray[i]? = some o := by simpa using h1
        simp only [hio]
        rcases g5 with ⟨g5, hoff⟩ | ⟨B, hB, rfl, hp, hfresh⟩
        · have hbl : ∀ k, lk (bL (fun j => (L.setIfInBounds i true).getD j false) effs bl) k = lk (bL (fun j => L.getD j false) effs bl) k := fun k => by
            refine Option.ext fun C => ?_
            rw [lk_bL ho, lk_bL ho]
            constructor
            · rintro (⟨e, h5, h6⟩ | h)
              · exact .inl ⟨e, h5, by rw [hne e (hoff _ h5)] at h6; exact h6⟩
              · exact .inr h
            · rintro (⟨e, h5, h6⟩ | h)
              · exact .inl ⟨e, h5, by rw [hne e (hoff _ h5)]; exact h6⟩
              · exact .inr h
          by_cases hpp : p
          · rw [if_pos (hw.2 hpp)]
            refine .inl (Oper.wp_mono' (g5 Φ β a w hsub hpp) (fun a' w' ⟨x, Φ', ha, hvv, hle', heq', hf', hb⟩ => ?_) (fun _ _ _ h => h.elim))
            subst ha
            rw [g2]
            exact next Φ' β _ w' _ hle' (hsat.set hle' heq' hf' hb g3 (fun _ => hvv.sup incl) (fun hx => (hx hpp).elim)) hbl
          · rw [if_neg (fun hx => hpp (hw.1 hx)), g2]
            exact next Φ β _ w _ Φ.le_refl (hsat.set Φ.le_refl (fun _ _ => rfl) hsat.fits (Below.refl _ _) g3 (fun hx => (hpp hx).elim) (fun _ => rfl)) hbl
        · rw [if_pos (hw.2 hp)]
          have hnone : lk (bL (fun j => L.getD j false) effs bl) d = none := by
            cases hc : lk (bL (fun j => L.getD j false) effs bl) d with
            | none => rfl
            | some C =>
              rcases (lk_bL ho).1 hc with ⟨e, h5, h6⟩ | h
              · obtain ⟨rfl, _⟩ := ho.fn _ _ _ _ _ h5 hB
                have h6 : L.getD e false = true := h6
                rw [hLi] at h6; cases h6
              · rw [ho.fr _ _ _ hB] at h; cases h
          refine .inl (Oper.wp_mono' (hfresh _ _ hsame hnone Φ β a w hsat) (fun a' w' ⟨Φ', β', hs', hle'⟩ => ?_) (fun _ _ _ h => h.elim))
          have hs2 : Sat G Φ' β' (St.mk n ((d, (p, .slc d)) :: eL (fun j => L.getD j false) 0 vals env) ((d, B) :: bL (fun j => L.getD j false) effs bl)) a' w' :=
            ⟨hs'.kept, hs'.fits, hs'.old, hs'.siz, hs'.dfr, fun t q v' hl => by
              simp only at hl
              rw [lk_cons] at hl
              by_cases e : d = t
              · subst e
                rw [if_pos rfl] at hl
                cases hl
                have h0 := hs'.env d True (.slc d) (by simp only; rw [lk_cons, if_pos rfl])
                exact ⟨fun _ => h0.1 trivial, fun hx => absurd hp hx⟩
              · rw [if_neg e] at hl
                exact hs'.env t q v' (by simp only; rw [lk_cons, if_neg e]; exact hl), hs'.blk, hs'.vir, hs'.inj⟩
          refine next Φ' β' a' w' _ hle' hs2 fun k => ?_
          refine Option.ext fun C => ?_
          rw [lk_bL ho, lk_cons]
          by_cases e : d = k
          · subst e
            rw [if_pos rfl]
            constructor
            · rintro (⟨e, h5, _⟩ | h)
              · rw [(ho.fn _ _ _ _ _ h5 hB).2]
              · rw [ho.fr _ _ _ hB] at h; cases h
            · intro h
              cases h
              exact .inl ⟨i, hB, heq false⟩
          · rw [if_neg e, lk_bL ho]
            constructor
            · rintro (⟨e', h5, h6⟩ | h)
              · have hne' : e' ≠ i := fun q => by subst q; exact e (ho.ix _ _ _ _ _ hB h5).1
                exact .inl ⟨e', h5, by rw [hne e' hne'] at h6; exact h6⟩
              · exact .inr h
            · rintro (⟨e', h5, h6⟩ | h)
              · have hne' : e' ≠ i := fun q => by subst q; exact e (ho.ix _ _ _ _ _ hB h5).1
                exact .inl ⟨e', h5, by rw [hne e' hne']; exact h6⟩
              · exact .inr h

/-- the same, with a tail -/
theorem W.drawF {id : Nat} {l : List Oper} {env : Env} {Q : Exit → St → Prop} (ms : List Nat) (tss : List (List Nat)) (m : Nat) (sg : List (Nat × Nat)) (effs : Effs) (hm : P.follows .mixedOrders = true) (hok : orderOk2 l ms tss m sg = true) (hml : Nat.ble m l.length = true) (hsg : Nat.beq sg.length m = true)
    (h1 : ndB (effs.map (·.1)) = true) (h2 : ndB (effs.map (·.2.1)) = true) (h3 : effs.all (fun x => (lk bl x.2.1).isNone) = true) (h4 : effs.all (fun x => Nat.blt x.1 m) = true)
    (h : LexE P G l.toArray n bl effs (l.take m) 0 tss ms env fun env' => RG P G l.toArray (l.drop m) (Q .normal) (St.mk n env' (effs.map (·.2) ++ bl))) : W P G (.region id l.toArray true) Q (St.mk n env bl) := fun Φ β a w hs => by
  have hml := Nat.le_of_ble_eq_true hml
  obtain ⟨vals, v1, v2, v3⟩ := LexE.vals h
  have hvl : vals.length = m := by rw [v1]; simp; omega
  refine wp_region_any hm ?_
  have hsz : l.toArray.size = l.length := by simp
  rw [hsz]
  have hall : bL (fun _ => true) effs bl = effs.map (·.2) ++ bl := by rw [bL_eq, List.filter_eq_self.2 fun x _ => rfl]
  refine lexF (orderOk_of2 (Nat.eq_of_beq_eq_true hsg) hok) hml hvl (EffsOk.of h1 h2 h3) (fun i o him ho => ?_) (fun x hx => blt_lt (List.all_eq_true.1 h4 x hx)) (by rw [hall]; exact v2) (Φ0 := Φ) (fun A' Φ' β' a' w' q s le => ⟨A', Φ', β', q, s, le⟩) l.length (Array.replicate l.length false) Φ β a { w with drawn := w.drawn + 1 } ?_ (by simp) (fun y o hy hL => ?_) (fun j _ hj => by simp [hj]) Φ.le_refl ?_
  · have := v3 i o (by rw [List.getElem?_take, if_pos him]; exact ho)
    rwa [Nat.zero_add] at this
  · have : un (fun j => (Array.replicate l.length false).getD j true) l.length = un (fun j => decide (j < 0)) l.length := un_congr _ fun j hj => by simp [hj]
    rw [this, un_lt _ (Nat.zero_le _)]; omega
  · have : (Array.replicate l.length false).getD y false = true := hL
    rw [Array.getD_eq_getD_getElem?, Array.getElem?_replicate] at this
    split at this <;> simp at this
  · have hf : ∀ j, (Array.replicate l.length false).getD j false = false := fun j => by
      rw [Array.getD_eq_getD_getElem?, Array.getElem?_replicate]
      split <;> rfl
    have hnone : (fun j => (Array.replicate l.length false).getD j false) = fun _ => false := funext hf
    rw [hnone, eL_none]
    have hb : bL (fun _ => false) effs bl = bl := by rw [bL_eq, List.filter_eq_nil_iff.2 fun x _ => by simp]; rfl
    rw [hb]
    exact ⟨hs.kept.drew, hs.fits, hs.old, hs.siz, hs.dfr, hs.env, hs.blk, hs.vir, hs.inj⟩
end
end Lf
