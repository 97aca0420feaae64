/-
  Part 7 of what the proof rests on.
-/
import Derived.Test.YtgpcmgjdkefdjaaOS06
import Derived.Test.YtgpcmgjdkefdjaaOS04
import Derived.Test.YtgpcmgjdkefdjaaOS05
section
set_option linter.unusedVariables false
set_option linter.unusedSimpArgs false
namespace Lf
open Go Go.RowKit
section
variable {P : Program} {G : Ghost} {ops : Array Oper} {n : Nat} {bl : List (Nat × Blk)} {effs : Effs}
theorem lexF {l : List Oper} {ms : List Nat} {tss : List (List Nat)} {m : Nat} (hok : orderOk l ms tss m = true) (hml : m ≤ l.length) {vals env : Env} {Φ0 : Frz} {Qs : St → Prop} {Q' : Exit → Act → World → Prop} (hvl : vals.length = m) (ho : EffsOk effs bl)
    (hv : ∀ i o, i < m → l[i]? = some o → ∃ d p v, vals[i]? = some (d, (p, v)) ∧ o.dst = some d ∧ d < n ∧ StepE P G l.toArray n bl effs i (ms.getD i 0) (only (tss.getD i []) (eL (fun j => decide (j < i)) 0 vals env)) o d p v)
    (hin : ∀ x ∈ effs, x.1 < m)
    (hK : RG P G l.toArray (l.drop m) Qs (St.mk n (eL (fun _ => true) 0 vals env) (bL (fun _ => true) effs bl)))
    (hq : ∀ A' Φ' β' a' w', Qs A' → Sat G Φ' β' A' a' w' → Φ0.le Φ' → Q' .normal a' w') :
    ∀ (fuel : Nat) (L : Array Bool) (Φ : Frz) (β : Own) (a : Act) (w : World), fuel = un (fun j => L.getD j true) l.length → L.size = l.length → Closed l (fun j => L.getD j false) → (∀ j, m ≤ j → j < l.length → L.getD j true = false) → Φ0.le Φ →
      Sat G Φ β (St.mk n (eL (fun j => L.getD j false) 0 vals env) (bL (fun j => L.getD j false) effs bl)) a w → wpAny P .any l.toArray Q' fuel L a w := by
  have fin : ∀ (L : Nat → Bool) (Φ : Frz) (β : Own) (a : Act) (w : World), (∀ j, j < m → L j = true) → Sat G Φ β (St.mk n (eL L 0 vals env) (bL L effs bl)) a w → Sat G Φ β (St.mk n (eL (fun _ => true) 0 vals env) (bL (fun _ => true) effs bl)) a w := fun L Φ β a w hallf hsat => by
    refine hsat.subB (fun k C hk => ?_) fun t q v h => ⟨?_, fun k hk => ?_⟩
    · rcases (lk_bL ho).1 hk with ⟨e, h1, _⟩ | h
      · exact (lk_bL ho).2 (.inl ⟨e, h1, hallf e (hin _ h1)⟩)
      · exact (lk_bL ho).2 (.inr h)
    · rw [← h]
      refine eL_congr vals 0 env env rfl fun j x hj hx => ?_
      have hjl : j < m := by have := (List.getElem?_eq_some_iff.1 hj).1; omega
      simp only [Nat.zero_add]; exact hallf j hjl
    · refine Option.ext fun C => ?_
      rw [lk_bL ho, lk_bL ho]
      constructor
      · rintro (⟨e, h1, _⟩ | h)
        · exact .inl ⟨e, h1, hallf e (hin _ h1)⟩
        · exact .inr h
      · rintro (⟨e, h1, _⟩ | h)
        · exact .inl ⟨e, h1, rfl⟩
        · exact .inr h
  intro fuel
  induction fuel with
  | zero =>
    intro L Φ β a w hf hs hcl htl hle hsat
    have hall := un_zero _ hf.symm
    have hm : m = l.length := by
      rcases Nat.lt_or_ge m l.length with h | h
      · have h' : L.getD m true = true := hall m h
        rw [htl m (Nat.le_refl _) h] at h'; cases h'
      · omega
    have hallf : ∀ j, j < m → L.getD j false = true := fun j hj => by
      have := hall j (by omega)
      rw [Array.getD_eq_getD_getElem?, Array.getElem?_eq_getElem (by omega)] at this ⊢; exact this
    refine forced hok 0 m L a w (by omega) (Nat.le_refl _) hml hs (fun j hj => by have h' : L.getD j true = true := hall j hj; rw [h']; simp; omega) ?_
    exact hK Φ β a w (fin _ Φ β a w hallf hsat) Q' fun A' Φ' β' a' w' q s le => hq A' Φ' β' a' w' q s (Frz.le_trans hle le)
  | succ fuel ih =>
    intro L Φ β a w hf hs hcl htl hle hsat
    have hLf : ∀ j, j < l.length → L.getD j false = L.getD j true := fun j hj => by
      rw [Array.getD_eq_getD_getElem?, Array.getD_eq_getD_getElem?, Array.getElem?_eq_getElem (by omega)]; rfl
    by_cases hpre : ∀ j, j < m → L.getD j true = true
    · refine forced hok (fuel + 1) m L a w ?_ (Nat.le_refl _) hml hs (fun j hj => ?_) ?_
      · rw [hf, un_congr (L' := fun j => decide (j < m)) _ (fun j hj => ?_), un_lt _ hml]
        by_cases e : j < m
        · rw [hpre j e]; simp [e]
        · rw [htl j (by omega) hj]; simp [e]
      · by_cases e : j < m
        · rw [hpre j e]; simp [e]
        · rw [htl j (by omega) hj]; simp [e]
      · exact hK Φ β a w (fin _ Φ β a w (fun j hj => by rw [hLf j (by omega)]; exact hpre j hj) hsat) Q' fun A' Φ' β' a' w' q s le => hq A' Φ' β' a' w' q s (Frz.le_trans hle le)
    · have hex : ∃ y, y < m ∧ L.getD y true = false ∧ ∀ j, j < y → L.getD j true = true := by
        have : ∃ j, j < m ∧ L.getD j true = false := by
          refine Classical.byContradiction fun hno => hpre fun j hj => ?_
          cases hb : L.getD j true with
          | true => rfl
          | false => exact absurd ⟨j, hj, hb⟩ hno
        obtain ⟨j0, hj0, hb0⟩ := this
        have key : ∀ k, k ≤ m → (∀ j, j < k → L.getD j true = true) ∨ ∃ y, y < m ∧ L.getD y true = false ∧ ∀ j, j < y → L.getD j true = true := by
          intro k
          induction k with
          | zero => intro _; exact .inl fun j hj => by omega
          | succ k ihk =>
            intro hk
            rcases ihk (by omega) with h | h
            · cases hb : L.getD k true with
              | true =>
                refine .inl fun j hj => ?_
                by_cases e : j = k
                · rw [e]; exact hb
                · exact h j (by omega)
              | false => exact .inr ⟨k, by omega, hb, h⟩
            · exact .inr h
        rcases key m (Nat.le_refl _) with h | h
        · have := h j0 hj0; rw [hb0] at this; cases this
        · exact h
      obtain ⟨y, hym, hyu, hyl⟩ := hex
      have hylen : y < l.length := by omega
      refine ⟨fun hr => ?_, fun i hi => ?_⟩
      · exfalso
        have hmem : y ∈ Region.ready .any l.toArray L := ready_mk (o := l[y]) (List.getElem?_eq_getElem _) hyu (fun j hj => by
          have := (orderOk_at hok (List.getElem?_eq_getElem hylen)).1 j hj
          rw [hLf j (by omega)]; exact hyl j this)
        rw [hr] at hmem; cases hmem
      · obtain ⟨o, h1, h2, h3⟩ := mem_ready' hi
        have hil := (List.getElem?_eq_some_iff.1 h1).1
        have him : i < m := by
          rcases Nat.lt_or_ge i m with h | h
          · exact h
          · exfalso
            have hanc := (orderOk_at hok h1).2.2.2 h y (by omega)
            have := closed_anc hok hcl i o h1 h3 y hanc
            have this : L.getD y false = true := this
            rw [hLf y hylen, hyu] at this; cases this
        obtain ⟨d, p, v, g1, g2, g3, g4, g5, g6⟩ := hv i o him h1
        obtain ⟨_, hlooks, hord⟩ := (orderOk_at hok h1).2.2.1 him
        have hLi : L.getD i false = false := by rw [hLf i hil]; exact h2
        -- who writes what this operation looks at, or writes
        have before : ∀ j x, vals[j]? = some x → (x.1 ∈ looks l.toArray o ∨ x.1 = d) → j ≠ i → L.getD j false = decide (j < i) := fun j x hj hx hne => by
          have hjm : j < m := by have := (List.getElem?_eq_some_iff.1 hj).1; omega
          have hjl : j < l.length := by omega
          have hoj : l[j]? = some l[j] := List.getElem?_eq_getElem _
          obtain ⟨dj, pj, vj, q1, q2, _⟩ := hv j l[j] hjm hoj
          rw [hj] at q1
          obtain rfl := Option.some.inj q1
          simp only at hx
          rcases Nat.lt_or_ge j i with hlt | hge
          · have hc : clash l.toArray l[j] o = true := by
              unfold clash
              rw [q2, g2]
              rcases hx with hx | hx
              · have : (looks l.toArray o).any (Nat.beq dj) = true := List.any_eq_true.2 ⟨dj, hx, Nat.beq_refl _⟩
                simp [this]
              · subst hx; simp
            have := closed_anc hok hcl i o h1 h3 j (hord j _ hlt hoj hc)
            have this : L.getD j false = true := this
            rw [this]; simp [hlt]
          · have hgt : i < j := by omega
            have hc : clash l.toArray o l[j] = true := by
              unfold clash
              rw [q2, g2]
              rcases hx with hx | hx
              · have : (looks l.toArray o).any (Nat.beq dj) = true := List.any_eq_true.2 ⟨dj, hx, Nat.beq_refl _⟩
                simp [this]
              · subst hx; simp
            cases hb : L.getD j false with
            | false => simp; omega
            | true =>
              exfalso
              have hordj := ((orderOk_at hok hoj).2.2.1 hjm).2.2 i o hgt h1 hc
              have := closed_anc hok hcl j _ hoj (hcl j _ hoj hb) i hordj
              have this : L.getD i false = true := this
              rw [hLi] at this; cases this
        have hsame : ∀ t e, lk (only (tss.getD i []) (eL (fun j => decide (j < i)) 0 vals env)) t = some e → lk (eL (fun j => L.getD j false) 0 vals env) t = some e := fun t e h => by
          obtain ⟨ht, he⟩ := lk_only h
          rw [← he]
          refine eL_congr vals 0 env env rfl fun j x hj hx => ?_
          simp only [Nat.zero_add]
          by_cases hji : j = i
          · subst hji; rw [hLi]; simp
          · rcases hlooks t ht with hl1 | hl2
            · exact before j x hj (.inl (by rw [hx]; exact hl1)) hji
            · exfalso
              have hjm : j < m := by have := (List.getElem?_eq_some_iff.1 hj).1; omega
              have hoj : l[j]? = some (l[j]'(by omega)) := List.getElem?_eq_getElem _
              obtain ⟨dj, pj, vj, q1, q2, _⟩ := hv j _ hjm hoj
              rw [hj] at q1
              obtain rfl := Option.some.inj q1
              exact hl2 j _ hoj (by rw [q2]; simp only at hx; rw [hx])
        have anc : ∀ e, bitN (ms.getD i 0) e = true → L.getD e false = true := fun e he => closed_anc hok hcl i o h1 h3 e (by rw [← bitN_eq]; exact he)
        have incl : ∀ k C, lk (bL (bitN (ms.getD i 0)) effs bl) k = some C → lk (bL (fun j => L.getD j false) effs bl) k = some C := fun k C hk => by
          rcases (lk_bL ho).1 hk with ⟨e, h5, h6⟩ | h
          · exact (lk_bL ho).2 (.inl ⟨e, h5, anc e h6⟩)
          · exact (lk_bL ho).2 (.inr h)
        have hsub : Sat G Φ β (St.mk n (only (tss.getD i []) (eL (fun j => decide (j < i)) 0 vals env)) (bL (bitN (ms.getD i 0)) effs bl)) a w := hsat.subB incl fun t q v hl => ⟨hsame t _ hl, fun k hk => by
          refine Option.ext fun C => ⟨incl k C, fun h => ?_⟩
          rcases (lk_bL ho).1 h with ⟨e, h5, h6⟩ | h
          · cases hb : bitN (ms.getD i 0) e with
            | true => exact (lk_bL ho).2 (.inl ⟨e, h5, hb⟩)
            | false => have := g6 _ h5 hb t _ hl; rw [hk] at this; cases this
          · exact (lk_bL ho).2 (.inr h)⟩
        have hw := g4 G Φ β a w hsub
        have hne : ∀ j, j ≠ i → ∀ b, (L.setIfInBounds i true).getD j b = L.getD j b := fun j hj b => getD_set_ne b (Ne.symm hj)
        have heq : ∀ b, (L.setIfInBounds i true).getD i b = true := fun b => by rw [Array.getD_eq_getD_getElem?, Array.getElem?_setIfInBounds_self_of_lt (by omega)]; rfl
        have envn : ∀ t e, lk (eL (fun j => (L.setIfInBounds i true).getD j false) 0 vals env) t = some e → lk ((d, (p, v)) :: eL (fun j => L.getD j false) 0 vals env) t = some e := fun t e h => by
          by_cases e1 : t = d
          · subst e1
            have hl1 : lk (eL (fun j => (L.setIfInBounds i true).getD j false) 0 vals env) t = lk (eL (fun j => decide (j < 0 + i + 1)) 0 vals env) t := eL_congr vals 0 env env rfl fun j x hj hx => by
              simp only [Nat.zero_add]
              by_cases hji : j = i
              · subst hji; rw [heq]; simp
              · rw [hne j hji, before j x hj (.inr hx) hji]
                simp only [decide_eq_decide]; omega
            rw [hl1, eL_lt vals 0 i env _ g1, lk_cons, if_pos rfl] at h
            rw [lk_cons, if_pos rfl]; exact h
          · rw [lk_cons, if_neg (Ne.symm e1), ← h]
            refine eL_congr vals 0 env env rfl fun j x hj hx => ?_
            simp only [Nat.zero_add]
            by_cases hji : j = i
            · subst hji
              rw [hj] at g1
              obtain rfl := Option.some.inj g1
              exact absurd hx.symm e1
            · rw [hne j hji]
        have next : ∀ (Φ' : Frz) (β' : Own) (a' : Act) (w' : World) (bl' : List (Nat × Blk)), Φ.le Φ' → Sat G Φ' β' (St.mk n ((d, (p, v)) :: eL (fun j => L.getD j false) 0 vals env) bl') a' w' → (∀ k, lk (bL (fun j => (L.setIfInBounds i true).getD j false) effs bl) k = lk bl' k) → wpAny P .any l.toArray Q' fuel (L.setIfInBounds i true) a' w' := fun Φ' β' a' w' bl' hle' hsat' hbl => by
          refine ih _ Φ' β' a' w' ?_ (by simpa using hs) (fun y' o' hy' hL' j hj => ?_) (fun j hmj hjl => by rw [hne j (by omega)]; exact htl j hmj hjl) (Frz.le_trans hle hle') (hsat'.subB (fun k C h => by rw [← hbl]; exact h) fun t q v' h => ⟨envn t _ h, fun k _ => hbl k⟩)
          · have := un_set (L := fun j => L.getD j true) (L' := fun j => (L.setIfInBounds i true).getD j true) (i := i) h2 (heq true) (fun j hj => hne j hj true) l.length hil
            omega
          · by_cases e1 : j = i
            · subst e1; exact heq false
            · show (L.setIfInBounds i true).getD j false = true
              rw [hne j e1]
              by_cases e2 : y' = i
              · subst e2
                rw [h1] at hy'
                obtain rfl := Option.some.inj hy'
                exact h3 j hj
              · have hL'' : L.getD y' false = true := by rw [← hne y' e2 false]; exact hL'
                exact hcl y' o' hy' hL'' j hj
        unfold wpOp
        have hio : l.toArray[i]? = some o := by simpa using h1
        simp only [hio]
        rcases g5 with ⟨g5, hoff⟩ | ⟨B, hB, rfl, hp, hfresh⟩
        · have hbl : ∀ k, lk (bL (fun j => (L.setIfInBounds i true).getD j false) effs bl) k = lk (bL (fun j => L.getD j false) effs bl) k := fun k => by
            refine Option.ext fun C => ?_
            rw [lk_bL ho, lk_bL ho]
            constructor
            · rintro (⟨e, h5, h6⟩ | h)
              · exact .inl ⟨e, h5, by rw [hne e (hoff _ h5)] at h6; exact h6⟩
              · exact .inr h
            · rintro (⟨e, h5, h6⟩ | h)
              · exact .inl ⟨e, h5, by rw [hne e (hoff _ h5)]; exact h6⟩
              · exact .inr h
          by_cases hpp : p
          · rw [if_pos (hw.2 hpp)]
            refine .inl (Oper.wp_mono' (g5 Φ β a w hsub hpp) (fun a' w' ⟨x, Φ', ha, hvv, hle', heq', hf', hb⟩ => ?_) (fun _ _ _ h => h.elim))
            subst ha
            rw [g2]
            exact next Φ' β _ w' _ hle' (hsat.set hle' heq' hf' hb g3 (fun _ => hvv.sup incl) (fun hx => (hx hpp).elim)) hbl
          · rw [if_neg (fun hx => hpp (hw.1 hx)), g2]
            exact next Φ β _ w _ Φ.le_refl (hsat.set Φ.le_refl (fun _ _ => rfl) hsat.fits (Below.refl _ _) g3 (fun hx => (hpp hx).elim) (fun _ => rfl)) hbl
        · rw [if_pos (hw.2 hp)]
          have hnone : lk (bL (fun j => L.getD j false) effs bl) d = none := by
            cases hc : lk (bL (fun j => L.getD j false) effs bl) d with
            | none => rfl
            | some C =>
              rcases (lk_bL ho).1 hc with ⟨e, h5, h6⟩ | h
              · obtain ⟨rfl, _⟩ := ho.fn _ _ _ _ _ h5 hB
                have h6 : L.getD e false = true := h6
                rw [hLi] at h6; cases h6
              · rw [ho.fr _ _ _ hB] at h; cases h
          refine .inl (Oper.wp_mono' (hfresh _ _ hsame hnone Φ β a w hsat) (fun a' w' ⟨Φ', β', hs', hle'⟩ => ?_) (fun _ _ _ h => h.elim))
          have hs2 : Sat G Φ' β' (St.mk n ((d, (p, .slc d)) :: eL (fun j => L.getD j false) 0 vals env) ((d, B) :: bL (fun j => L.getD j false) effs bl)) a' w' :=
            ⟨hs'.kept, hs'.fits, hs'.old, hs'.siz, hs'.dfr, fun t q v' hl => by
              simp only at hl
              rw [lk_cons] at hl
              by_cases e : d = t
              · subst e
                rw [if_pos rfl] at hl
                cases hl
                have h0 := hs'.env d True (.slc d) (by simp only; rw [lk_cons, if_pos rfl])
                exact ⟨fun _ => h0.1 trivial, fun hx => absurd hp hx⟩
              · rw [if_neg e] at hl
                exact hs'.env t q v' (by simp only; rw [lk_cons, if_neg e]; exact hl), hs'.blk, hs'.vir, hs'.inj⟩
          refine next Φ' β' a' w' _ hle' hs2 fun k => ?_
          refine Option.ext fun C => ?_
          rw [lk_bL ho, lk_cons]
          by_cases e : d = k
          · subst e
            rw [if_pos rfl]
            constructor
            · rintro (⟨e, h5, _⟩ | h)
              · rw [(ho.fn _ _ _ _ _ h5 hB).2]
              · rw [ho.fr _ _ _ hB] at h; cases h
            · intro h
              cases h
              exact .inl ⟨i, hB, heq false⟩
          · rw [if_neg e, lk_bL ho]
            constructor
            · rintro (⟨e', h5, h6⟩ | h)
              · have hne' : e' ≠ i := fun q => by subst q; exact e (ho.ix _ _ _ _ _ hB h5).1
                exact .inl ⟨e', h5, by rw [hne e' hne'] at h6; exact h6⟩
              · exact .inr h
            · rintro (⟨e', h5, h6⟩ | h)
              · have hne' : e' ≠ i := fun q => by subst q; exact e (ho.ix _ _ _ _ _ hB h5).1
                exact .inl ⟨e', h5, by rw [hne e' hne']; exact h6⟩
              · exact .inr h
/-- the same, with a tail -/
theorem W.drawF {id : Nat} {l : List Oper} {env : Env} {Q : Exit → St → Prop} (ms : List Nat) (tss : List (List Nat)) (m : Nat) (sg : List (Nat × Nat)) (effs : Effs) (hm : P.follows .mixedOrders = true) (hok : orderOk2 l ms tss m sg = true) (hml : Nat.ble m l.length = true) (hsg : Nat.beq sg.length m = true)
    (h1 : ndB (effs.map (·.1)) = true) (h2 : ndB (effs.map (·.2.1)) = true) (h3 : effs.all (fun x => (lk bl x.2.1).isNone) = true) (h4 : effs.all (fun x => Nat.blt x.1 m) = true)
    (h : LexE P G l.toArray n bl effs (l.take m) 0 tss ms env fun env' => RG P G l.toArray (l.drop m) (Q .normal) (St.mk n env' (effs.map (·.2) ++ bl))) : W P G (.region id l.toArray true) Q (St.mk n env bl) := fun Φ β a w hs => by
  have hml := Nat.le_of_ble_eq_true hml
  obtain ⟨vals, v1, v2, v3⟩ := LexE.vals h
  have hvl : vals.length = m := by rw [v1]; simp; omega
  refine wp_region_any hm ?_
  have hsz : l.toArray.size = l.length := by simp
  rw [hsz]
  have hall : bL (fun _ => true) effs bl = effs.map (·.2) ++ bl := by rw [bL_eq, List.filter_eq_self.2 fun x _ => rfl]
  refine lexF (orderOk_of2 (Nat.eq_of_beq_eq_true hsg) hok) hml hvl (EffsOk.of h1 h2 h3) (fun i o him ho => ?_) (fun x hx => blt_lt (List.all_eq_true.1 h4 x hx)) (by rw [hall]; exact v2) (Φ0 := Φ) (fun A' Φ' β' a' w' q s le => ⟨A', Φ', β', q, s, le⟩) l.length (Array.replicate l.length false) Φ β a { w with drawn := w.drawn + 1 } ?_ (by simp) (fun y o hy hL => ?_) (fun j _ hj => by simp [hj]) Φ.le_refl ?_
  · have := v3 i o (by rw [List.getElem?_take, if_pos him]; exact ho)
    rwa [Nat.zero_add] at this
  · have : un (fun j => (Array.replicate l.length false).getD j true) l.length = un (fun j => decide (j < 0)) l.length := un_congr _ fun j hj => by simp [hj]
    rw [this, un_lt _ (Nat.zero_le _)]; omega
  · have : (Array.replicate l.length false).getD y false = true := hL
    rw [Array.getD_eq_getD_getElem?, Array.getElem?_replicate] at this
    split at this <;> simp at this
  · have hf : ∀ j, (Array.replicate l.length false).getD j false = false := fun j => by
      rw [Array.getD_eq_getD_getElem?, Array.getElem?_replicate]
      split <;> rfl
    have hnone : (fun j => (Array.replicate l.length false).getD j false) = fun _ => false := funext hf
    rw [hnone, eL_none]
    have hb : bL (fun _ => false) effs bl = bl := by rw [bL_eq, List.filter_eq_nil_iff.2 fun x _ => by simp]; rfl
    rw [hb]
    exact ⟨hs.kept.drew, hs.fits, hs.old, hs.siz, hs.dfr, hs.env, hs.blk, hs.vir, hs.inj⟩
end
end Lf
end
section
set_option linter.unusedVariables false
set_option linter.unusedSimpArgs false
set_option maxHeartbeats 8000000
namespace Go.Proofs.Ytgpcmgjdkefdjaa
open Lf Go
attribute [local irreducible] PureOp EffOp Ev RG W Then InBlock Lf.Fin nth App InitE Pick SubE EvL EvD EvP EvR ResL Lf.Lex SubR SubBR RA RAll EvC FinO FinM ResM ResD FinS val pw digs trimL
theorem addZ_ok (x y : Int) (hx : okZ x) (hy : okZ y) : ACalls Try.prog 81 [zB x, zB y] (.tup [zB (fullZ (x + y)), cI (fullE (x + y))]) := by
  have h1 := right_yes hx
  have h2 := right_yes hy
  have l1 := num_len hx
  have l2 := num_len hy
  have hs := mul_sgn x y
  have c1 := sgn_cases x
  have c2 := sgn_cases y
  have mx := mag_nn x
  have my := mag_nn y
  have hx' := hx
  have hy' := hy
  unfold okZ at hx' hy'
  have hz61 : mag (x + y) < pw 61 := by
    have := sgn_cases (x + y)
    have : pw 61 = 1048576 * pw 60 := pw_succ 60
    omega
  have l5 : (digs (mag (x + y))).length ≤ 61 := (digs_len (mag_nn _)).2 hz61
  have h5 := checked_yes (x + y) (by omega)
  by_cases hc : 0 ≤ sgn x * sgn y
  · have h6 := orTwo_ok (sgn x) (sgn y)
    have h3 := add_ok (digs (mag x)) (digs (mag y)) (digs_norm _).dig (digs_norm _).dig (by omega) (by omega)
    rw [val_mag, val_mag] at h3
    have e0 : x + y = (if sgn x = 0 then sgn y else sgn x) * (mag x + mag y) ∧ ((if sgn x = 0 then sgn y else sgn x) = 1 ∨ (if sgn x = 0 then sgn y else sgn x) = -1 ∨ mag x + mag y = 0) := by
      rcases c1 with h | h | h <;> rcases c2 with h' | h' | h' <;> rw [h.1, h'.1] at hc ⊢ <;> rw [h.2.2, h'.2.2] <;> simp at hc ⊢ <;> omega
    have em : mag (x + y) = mag x + mag y := (num_of (by omega) e0.2 e0.1).1
    have h4 := signed_ok (if sgn x = 0 then sgn y else sgn x) (digs (mag x + mag y)) (digs_norm _).dig (by rw [← em]; omega) (x + y) (by rw [val_digs (by omega)]; exact e0.2) (by rw [val_digs (by omega)]; exact e0.1)
    generalize (if sgn x = 0 then sgn y else sgn x) = s at *
    generalize x + y = z at *
    refine ACalls.of_M TYok (qs := [zB (fullZ z), cI (fullE z)]) [.cell 4 29, .tmp 5] 69 Try.func81 (by kernel_rfl) rfl rfl rfl fun G => ?_
    refine W.initA (hw := ?_)
    repeat' (first | ((first | apply U_ | (apply Ug_; exact rfl; exact rfl) | (apply Ugq_; exact rfl; exact rfl) | apply Lex.u | (apply Lex.g; exact rfl; exact rfl) | (apply Lex.gq; exact rfl; exact rfl)); (first | exact QX.B TYok | exact QX.Ext TYok | exact QX.Build TYok | exact QCl (h1) | exact QCl (h2) | exact QCd (h3) | exact QCd (h4) | exact QCd (h5) | exact QCl (h6)); exact rfl) | refine SX.Alloc TYok (h := ?_) | refine SX.Store TYok (h := ?_) | refine SX.Lit TYok (h := ?_) | refine SX.Box TYok (h := ?_) | refine SC ?_ | refine SG ?_ | (apply W.draw2 (id := 6) [0, 1, 0, 4, 0, 16, 60, 127, 255, 511, 511, 2047, 4095] [[3], [47], [3], [49], [2], [51], [50, 52], [48, 53], [54], [55], [55]] 11 [(47, 8), (48, 140737488355328), (49, 8), (50, 562949953421312), (51, 4), (52, 2251799813685248), (53, 5629499534213120), (54, 9288674231451648), (55, 18014398509481984), (56, 36028797018963968), (57, 36028797018963968)] mixed (by kernel_rfl) rfl rfl) | (apply W.draw2 (id := 7) [0, 1, 0, 4, 0, 16, 60, 127, 255, 511, 511, 2047, 4095] [[2], [58], [2], [60], [3], [62], [61, 63], [59, 64], [65], [66], [66]] 11 [(58, 4), (59, 288230376151711744), (60, 4), (61, 1152921504606846976), (62, 8), (63, 4611686018427387904), (64, 11529215046068469760), (65, 19023204826012975104), (66, 36893488147419103232), (67, 73786976294838206464), (68, 73786976294838206464)] mixed (by kernel_rfl) rfl rfl) | (refine W.drawF (id := 4) [0, 1, 0, 4, 15, 31, 0, 64, 0, 256, 1023, 2047, 4095, 8191, 8191, 32767, 65535] [[2], [25], [3], [27], [26, 28], [29], [2], [31], [3], [33], [32, 34], [30, 35], [36], [37], [37]] 15 [(25, 4), (26, 33554432), (27, 8), (28, 134217728), (29, 335544320), (30, 536870912), (31, 4), (32, 2147483648), (33, 8), (34, 8589934592), (35, 21474836480), (36, 35433480192), (37, 68719476736), (38, 137438953472), (39, 137438953472)] [(4, (29, ⟨3, 1, [[.int .i64 (sgn x)], [.int .i64 (sgn y)]]⟩))] mixed (by kernel_rfl) rfl rfl rfl rfl rfl rfl ?_) | apply LexE.nil | (apply LexE.e (k := 0); exact rfl; apply FreshAt.lit TYok; (repeat (first | exact EvR.nil | apply EvR.cons Ev.auto)); exact rfl; exact rfl; exact rfl; exact rfl; exact rfl; exact rfl; exact rfl; exact rfl; exact rfl; exact rfl; exact rfl) | (apply LexE.ge (k := 0); exact rfl; exact rfl; (first | assumption | decide | exact rfl); exact rfl; apply FreshAt.lit TYok; (repeat (first | exact EvR.nil | apply EvR.cons Ev.auto)); exact rfl; exact rfl; exact rfl; exact rfl; exact rfl; exact rfl; exact rfl; exact rfl; exact rfl; exact rfl; exact rfl) | ((first | apply LexE.u | (apply LexE.g; exact rfl; exact rfl) | (apply LexE.gq; exact rfl; exact rfl)); (first | (first | exact QX.B TYok | exact QX.Ext TYok | exact QX.Build TYok | exact QCl (h1) | exact QCl (h2) | exact QCd (h3) | exact QCd (h4) | exact QCd (h5) | exact QCl (h6)) | (apply PureOp.off; intro hp; simp_all; done)); exact rfl; exact rfl; exact rfl) | (refine W.condA (ht := fun hb => ?_) (hf := fun hb => ?_) <;> (try simp at hb) <;> (try (exfalso; omega))))
    exact FinM.ret ResM.auto
  · have h6 := compare_ok (digs (mag x)) (digs (mag y)) (digs_norm _) (digs_norm _) (by omega) (by omega)
    rw [val_mag, val_mag] at h6
    by_cases hlt : mag x < mag y
    · have h3 := sub_ok (digs (mag y)) (digs (mag x)) (digs_norm _).dig (digs_norm _).dig (by omega) (digs_mono mx (by omega)) (by rw [val_mag, val_mag]; omega)
      rw [val_mag, val_mag] at h3
      have e0 : x + y = sgn y * (mag y - mag x) ∧ (sgn y = 1 ∨ sgn y = -1 ∨ mag y - mag x = 0) := by
        rcases c1 with h | h | h <;> rcases c2 with h' | h' | h' <;> rw [h.1, h'.1] at hc <;> rw [h'.1, h.2.2, h'.2.2] <;> simp at hc ⊢ <;> omega
      have em : mag (x + y) = mag y - mag x := (num_of (by omega) e0.2 e0.1).1
      have h4 := signed_ok (sgn y) (digs (mag y - mag x)) (digs_norm _).dig (by rw [← em]; omega) (x + y) (by rw [val_digs (by omega)]; exact e0.2) (by rw [val_digs (by omega)]; exact e0.1)
      rw [show cmpI (mag x) (mag y) = -1 from if_pos hlt] at h6
      generalize x + y = z at *
      refine ACalls.of_M TYok (qs := [zB (fullZ z), cI (fullE z)]) [.cell 4 29, .tmp 5] 69 Try.func81 (by kernel_rfl) rfl rfl rfl fun G => ?_
      refine W.initA (hw := ?_)
      repeat' (first | ((first | apply U_ | (apply Ug_; exact rfl; exact rfl) | (apply Ugq_; exact rfl; exact rfl) | apply Lex.u | (apply Lex.g; exact rfl; exact rfl) | (apply Lex.gq; exact rfl; exact rfl)); (first | exact QX.B TYok | exact QX.Ext TYok | exact QX.Build TYok | exact QCl (h1) | exact QCl (h2) | exact QCd (h3) | exact QCd (h4) | exact QCd (h5) | exact QCl (h6)); exact rfl) | refine SX.Alloc TYok (h := ?_) | refine SX.Store TYok (h := ?_) | refine SX.Lit TYok (h := ?_) | refine SX.Box TYok (h := ?_) | refine SC ?_ | refine SG ?_ | (apply W.draw2 (id := 6) [0, 1, 0, 4, 0, 16, 60, 127, 255, 511, 511, 2047, 4095] [[3], [47], [3], [49], [2], [51], [50, 52], [48, 53], [54], [55], [55]] 11 [(47, 8), (48, 140737488355328), (49, 8), (50, 562949953421312), (51, 4), (52, 2251799813685248), (53, 5629499534213120), (54, 9288674231451648), (55, 18014398509481984), (56, 36028797018963968), (57, 36028797018963968)] mixed (by kernel_rfl) rfl rfl) | (apply W.draw2 (id := 7) [0, 1, 0, 4, 0, 16, 60, 127, 255, 511, 511, 2047, 4095] [[2], [58], [2], [60], [3], [62], [61, 63], [59, 64], [65], [66], [66]] 11 [(58, 4), (59, 288230376151711744), (60, 4), (61, 1152921504606846976), (62, 8), (63, 4611686018427387904), (64, 11529215046068469760), (65, 19023204826012975104), (66, 36893488147419103232), (67, 73786976294838206464), (68, 73786976294838206464)] mixed (by kernel_rfl) rfl rfl) | (refine W.drawA (id := 4) (L := [false, false, false, false, false, false, false, false, false, false, false, false, false, false, false, false, false]) mixed rfl ?_) | exact RAll.nil | (refine RAll.cons rfl ?_ ?_) | (refine RA.step (L := [false, false, false, false, false, false, false, false, false, false, false, false, false, false, false, false, false]) (i := 0) (is := [2, 6, 8]) (by kernel_rfl) ?_) | (refine RA.step (L := [false, false, false, false, false, false, false, false, true, false, false, false, false, false, false, false, false]) (i := 0) (is := [2, 6, 9]) (by kernel_rfl) ?_) | (refine RA.step (L := [false, false, false, false, false, false, false, false, true, true, false, false, false, false, false, false, false]) (i := 0) (is := [2, 6]) (by kernel_rfl) ?_) | (refine RA.step (L := [false, false, false, false, false, false, true, false, true, true, false, false, false, false, false, false, false]) (i := 0) (is := [2, 7]) (by kernel_rfl) ?_) | (refine RA.step (L := [false, false, false, false, false, false, true, true, true, true, false, false, false, false, false, false, false]) (i := 0) (is := [2]) (by kernel_rfl) ?_) | (refine RA.step (L := [false, false, true, false, false, false, true, true, true, true, false, false, false, false, false, false, false]) (i := 0) (is := [3]) (by kernel_rfl) ?_) | (refine RA.step (L := [false, false, true, true, false, false, true, true, true, true, false, false, false, false, false, false, false]) (i := 0) (is := []) (by kernel_rfl) ?_) | (refine RA.step (L := [true, false, true, true, false, false, true, true, true, true, false, false, false, false, false, false, false]) (i := 1) (is := []) (by kernel_rfl) ?_) | (refine RA.step (L := [true, true, true, true, false, false, true, true, true, true, false, false, false, false, false, false, false]) (i := 4) (is := []) (by kernel_rfl) ?_) | (refine RA.step (L := [true, true, true, true, true, false, true, true, true, true, false, false, false, false, false, false, false]) (i := 5) (is := []) (by kernel_rfl) ?_) | (refine RA.step (L := [true, true, true, true, true, true, true, true, true, true, false, false, false, false, false, false, false]) (i := 10) (is := []) (by kernel_rfl) ?_) | (refine RA.step (L := [true, true, true, true, true, true, true, true, true, true, true, false, false, false, false, false, false]) (i := 11) (is := []) (by kernel_rfl) ?_) | (refine RA.step (L := [true, true, true, true, true, true, true, true, true, true, true, true, false, false, false, false, false]) (i := 12) (is := []) (by kernel_rfl) ?_) | (refine RA.step (L := [true, true, true, true, true, true, true, true, true, true, true, true, true, false, false, false, false]) (i := 13) (is := [14]) (by kernel_rfl) ?_) | (refine RA.step (L := [true, true, true, true, true, true, true, true, true, true, true, true, true, false, true, false, false]) (i := 13) (is := []) (by kernel_rfl) ?_) | (refine RA.step (L := [true, true, true, true, true, true, true, true, true, true, true, true, true, true, true, false, false]) (i := 15) (is := []) (by kernel_rfl) ?_) | (refine RA.step (L := [true, true, true, true, true, true, true, true, true, true, true, true, true, true, true, true, false]) (i := 16) (is := []) (by kernel_rfl) ?_) | (refine RA.done (L := [true, true, true, true, true, true, true, true, true, true, true, true, true, true, true, true, true]) (by kernel_rfl) ?_) | (refine RA.step (L := [true, true, true, true, true, true, true, true, true, true, true, true, true, true, false, false, false]) (i := 14) (is := []) (by kernel_rfl) ?_) | (refine RA.step (L := [true, false, true, false, false, false, true, true, true, true, false, false, false, false, false, false, false]) (i := 1) (is := [3]) (by kernel_rfl) ?_) | (refine RA.step (L := [true, true, true, false, false, false, true, true, true, true, false, false, false, false, false, false, false]) (i := 3) (is := []) (by kernel_rfl) ?_) | (refine RA.step (L := [true, false, false, false, false, false, true, true, true, true, false, false, false, false, false, false, false]) (i := 1) (is := [2]) (by kernel_rfl) ?_) | (refine RA.step (L := [true, true, false, false, false, false, true, true, true, true, false, false, false, false, false, false, false]) (i := 2) (is := []) (by kernel_rfl) ?_) | (refine RA.step (L := [false, false, true, false, false, false, true, false, true, true, false, false, false, false, false, false, false]) (i := 0) (is := [3, 7]) (by kernel_rfl) ?_) | (refine RA.step (L := [false, false, true, true, false, false, true, false, true, true, false, false, false, false, false, false, false]) (i := 0) (is := [7]) (by kernel_rfl) ?_) | (refine RA.step (L := [true, false, true, true, false, false, true, false, true, true, false, false, false, false, false, false, false]) (i := 1) (is := [7]) (by kernel_rfl) ?_) | (refine RA.step (L := [true, true, true, true, false, false, true, false, true, true, false, false, false, false, false, false, false]) (i := 4) (is := [7]) (by kernel_rfl) ?_) | (refine RA.step (L := [true, true, true, true, true, false, true, false, true, true, false, false, false, false, false, false, false]) (i := 5) (is := [7]) (by kernel_rfl) ?_) | (refine RA.step (L := [true, true, true, true, true, true, true, false, true, true, false, false, false, false, false, false, false]) (i := 7) (is := []) (by kernel_rfl) ?_) | (refine RA.step (L := [true, false, true, false, false, false, true, false, true, true, false, false, false, false, false, false, false]) (i := 1) (is := [3, 7]) (by kernel_rfl) ?_) | (refine RA.step (L := [true, true, true, false, false, false, true, false, true, true, false, false, false, false, false, false, false]) (i := 3) (is := [7]) (by kernel_rfl) ?_) | (refine RA.step (L := [true, false, false, false, false, false, true, false, true, true, false, false, false, false, false, false, false]) (i := 1) (is := [2, 7]) (by kernel_rfl) ?_) | (refine RA.step (L := [true, true, false, false, false, false, true, false, true, true, false, false, false, false, false, false, false]) (i := 2) (is := [7]) (by kernel_rfl) ?_) | (refine RA.step (L := [false, false, true, false, false, false, false, false, true, true, false, false, false, false, false, false, false]) (i := 0) (is := [3, 6]) (by kernel_rfl) ?_) | (refine RA.step (L := [false, false, true, true, false, false, false, false, true, true, false, false, false, false, false, false, false]) (i := 0) (is := [6]) (by kernel_rfl) ?_) | (refine RA.step (L := [true, false, true, true, false, false, false, false, true, true, false, false, false, false, false, false, false]) (i := 1) (is := [6]) (by kernel_rfl) ?_) | (refine RA.step (L := [true, true, true, true, false, false, false, false, true, true, false, false, false, false, false, false, false]) (i := 4) (is := [6]) (by kernel_rfl) ?_) | (refine RA.step (L := [true, true, true, true, true, false, false, false, true, true, false, false, false, false, false, false, false]) (i := 5) (is := [6]) (by kernel_rfl) ?_) | (refine RA.step (L := [true, true, true, true, true, true, false, false, true, true, false, false, false, false, false, false, false]) (i := 6) (is := []) (by kernel_rfl) ?_) | (refine RA.step (L := [true, false, true, false, false, false, false, false, true, true, false, false, false, false, false, false, false]) (i := 1) (is := [3, 6]) (by kernel_rfl) ?_) | (refine RA.step (L := [true, true, true, false, false, false, false, false, true, true, false, false, false, false, false, false, false]) (i := 3) (is := [6]) (by kernel_rfl) ?_) | (refine RA.step (L := [true, false, false, false, false, false, false, false, true, true, false, false, false, false, false, false, false]) (i := 1) (is := [2, 6]) (by kernel_rfl) ?_) | (refine RA.step (L := [true, true, false, false, false, false, false, false, true, true, false, false, false, false, false, false, false]) (i := 2) (is := [6]) (by kernel_rfl) ?_) | (refine RA.step (L := [false, false, false, false, false, false, true, false, true, false, false, false, false, false, false, false, false]) (i := 0) (is := [2, 7, 9]) (by kernel_rfl) ?_) | (refine RA.step (L := [false, false, false, false, false, false, true, true, true, false, false, false, false, false, false, false, false]) (i := 0) (is := [2, 9]) (by kernel_rfl) ?_) | (refine RA.step (L := [false, false, true, false, false, false, true, true, true, false, false, false, false, false, false, false, false]) (i := 0) (is := [3, 9]) (by kernel_rfl) ?_) | (refine RA.step (L := [false, false, true, true, false, false, true, true, true, false, false, false, false, false, false, false, false]) (i := 0) (is := [9]) (by kernel_rfl) ?_) | (refine RA.step (L := [true, false, true, true, false, false, true, true, true, false, false, false, false, false, false, false, false]) (i := 1) (is := [9]) (by kernel_rfl) ?_) | (refine RA.step (L := [true, true, true, true, false, false, true, true, true, false, false, false, false, false, false, false, false]) (i := 4) (is := [9]) (by kernel_rfl) ?_) | (refine RA.step (L := [true, true, true, true, true, false, true, true, true, false, false, false, false, false, false, false, false]) (i := 5) (is := [9]) (by kernel_rfl) ?_) | (refine RA.step (L := [true, true, true, true, true, true, true, true, true, false, false, false, false, false, false, false, false]) (i := 9) (is := []) (by kernel_rfl) ?_) | (refine RA.step (L := [true, false, true, false, false, false, true, true, true, false, false, false, false, false, false, false, false]) (i := 1) (is := [3, 9]) (by kernel_rfl) ?_) | (refine RA.step (L := [true, true, true, false, false, false, true, true, true, false, false, false, false, false, false, false, false]) (i := 3) (is := [9]) (by kernel_rfl) ?_) | (refine RA.step (L := [true, false, false, false, false, false, true, true, true, false, false, false, false, false, false, false, false]) (i := 1) (is := [2, 9]) (by kernel_rfl) ?_) | (refine RA.step (L := [true, true, false, false, false, false, true, true, true, false, false, false, false, false, false, false, false]) (i := 2) (is := [9]) (by kernel_rfl) ?_) | (refine RA.step (L := [false, false, true, false, false, false, true, false, true, false, false, false, false, false, false, false, false]) (i := 0) (is := [3, 7, 9]) (by kernel_rfl) ?_) | (refine RA.step (L := [false, false, true, true, false, false, true, false, true, false, false, false, false, false, false, false, false]) (i := 0) (is := [7, 9]) (by kernel_rfl) ?_) | (refine RA.step (L := [true, false, true, true, false, false, true, false, true, false, false, false, false, false, false, false, false]) (i := 1) (is := [7, 9]) (by kernel_rfl) ?_) | (refine RA.step (L := [true, true, true, true, false, false, true, false, true, false, false, false, false, false, false, false, false]) (i := 4) (is := [7, 9]) (by kernel_rfl) ?_) | (refine RA.step (L := [true, true, true, true, true, false, true, false, true, false, false, false, false, false, false, false, false]) (i := 5) (is := [7, 9]) (by kernel_rfl) ?_) | (refine RA.step (L := [true, true, true, true, true, true, true, false, true, false, false, false, false, false, false, false, false]) (i := 7) (is := [9]) (by kernel_rfl) ?_) | (refine RA.step (L := [true, false, true, false, false, false, true, false, true, false, false, false, false, false, false, false, false]) (i := 1) (is := [3, 7, 9]) (by kernel_rfl) ?_) | (refine RA.step (L := [true, true, true, false, false, false, true, false, true, false, false, false, false, false, false, false, false]) (i := 3) (is := [7, 9]) (by kernel_rfl) ?_) | (refine RA.step (L := [true, false, false, false, false, false, true, false, true, false, false, false, false, false, false, false, false]) (i := 1) (is := [2, 7, 9]) (by kernel_rfl) ?_) | (refine RA.step (L := [true, true, false, false, false, false, true, false, true, false, false, false, false, false, false, false, false]) (i := 2) (is := [7, 9]) (by kernel_rfl) ?_) | (refine RA.step (L := [false, false, true, false, false, false, false, false, true, false, false, false, false, false, false, false, false]) (i := 0) (is := [3, 6, 9]) (by kernel_rfl) ?_) | (refine RA.step (L := [false, false, true, true, false, false, false, false, true, false, false, false, false, false, false, false, false]) (i := 0) (is := [6, 9]) (by kernel_rfl) ?_) | (refine RA.step (L := [true, false, true, true, false, false, false, false, true, false, false, false, false, false, false, false, false]) (i := 1) (is := [6, 9]) (by kernel_rfl) ?_) | (refine RA.step (L := [true, true, true, true, false, false, false, false, true, false, false, false, false, false, false, false, false]) (i := 4) (is := [6, 9]) (by kernel_rfl) ?_) | (refine RA.step (L := [true, true, true, true, true, false, false, false, true, false, false, false, false, false, false, false, false]) (i := 5) (is := [6, 9]) (by kernel_rfl) ?_) | (refine RA.step (L := [true, true, true, true, true, true, false, false, true, false, false, false, false, false, false, false, false]) (i := 6) (is := [9]) (by kernel_rfl) ?_) | (refine RA.step (L := [true, false, true, false, false, false, false, false, true, false, false, false, false, false, false, false, false]) (i := 1) (is := [3, 6, 9]) (by kernel_rfl) ?_) | (refine RA.step (L := [true, true, true, false, false, false, false, false, true, false, false, false, false, false, false, false, false]) (i := 3) (is := [6, 9]) (by kernel_rfl) ?_) | (refine RA.step (L := [true, false, false, false, false, false, false, false, true, false, false, false, false, false, false, false, false]) (i := 1) (is := [2, 6, 9]) (by kernel_rfl) ?_) | (refine RA.step (L := [true, true, false, false, false, false, false, false, true, false, false, false, false, false, false, false, false]) (i := 2) (is := [6, 9]) (by kernel_rfl) ?_) | (refine RA.step (L := [false, false, false, false, false, false, true, false, false, false, false, false, false, false, false, false, false]) (i := 0) (is := [2, 7, 8]) (by kernel_rfl) ?_) | (refine RA.step (L := [false, false, false, false, false, false, true, true, false, false, false, false, false, false, false, false, false]) (i := 0) (is := [2, 8]) (by kernel_rfl) ?_) | (refine RA.step (L := [false, false, true, false, false, false, true, true, false, false, false, false, false, false, false, false, false]) (i := 0) (is := [3, 8]) (by kernel_rfl) ?_) | (refine RA.step (L := [false, false, true, true, false, false, true, true, false, false, false, false, false, false, false, false, false]) (i := 0) (is := [8]) (by kernel_rfl) ?_) | (refine RA.step (L := [true, false, true, true, false, false, true, true, false, false, false, false, false, false, false, false, false]) (i := 1) (is := [8]) (by kernel_rfl) ?_) | (refine RA.step (L := [true, true, true, true, false, false, true, true, false, false, false, false, false, false, false, false, false]) (i := 4) (is := [8]) (by kernel_rfl) ?_) | (refine RA.step (L := [true, true, true, true, true, false, true, true, false, false, false, false, false, false, false, false, false]) (i := 5) (is := [8]) (by kernel_rfl) ?_) | (refine RA.step (L := [true, true, true, true, true, true, true, true, false, false, false, false, false, false, false, false, false]) (i := 8) (is := []) (by kernel_rfl) ?_) | (refine RA.step (L := [true, false, true, false, false, false, true, true, false, false, false, false, false, false, false, false, false]) (i := 1) (is := [3, 8]) (by kernel_rfl) ?_) | (refine RA.step (L := [true, true, true, false, false, false, true, true, false, false, false, false, false, false, false, false, false]) (i := 3) (is := [8]) (by kernel_rfl) ?_) | (refine RA.step (L := [true, false, false, false, false, false, true, true, false, false, false, false, false, false, false, false, false]) (i := 1) (is := [2, 8]) (by kernel_rfl) ?_) | (refine RA.step (L := [true, true, false, false, false, false, true, true, false, false, false, false, false, false, false, false, false]) (i := 2) (is := [8]) (by kernel_rfl) ?_) | (refine RA.step (L := [false, false, true, false, false, false, true, false, false, false, false, false, false, false, false, false, false]) (i := 0) (is := [3, 7, 8]) (by kernel_rfl) ?_) | (refine RA.step (L := [false, false, true, true, false, false, true, false, false, false, false, false, false, false, false, false, false]) (i := 0) (is := [7, 8]) (by kernel_rfl) ?_) | (refine RA.step (L := [true, false, true, true, false, false, true, false, false, false, false, false, false, false, false, false, false]) (i := 1) (is := [7, 8]) (by kernel_rfl) ?_) | (refine RA.step (L := [true, true, true, true, false, false, true, false, false, false, false, false, false, false, false, false, false]) (i := 4) (is := [7, 8]) (by kernel_rfl) ?_) | (refine RA.step (L := [true, true, true, true, true, false, true, false, false, false, false, false, false, false, false, false, false]) (i := 5) (is := [7, 8]) (by kernel_rfl) ?_) | (refine RA.step (L := [true, true, true, true, true, true, true, false, false, false, false, false, false, false, false, false, false]) (i := 7) (is := [8]) (by kernel_rfl) ?_) | (refine RA.step (L := [true, false, true, false, false, false, true, false, false, false, false, false, false, false, false, false, false]) (i := 1) (is := [3, 7, 8]) (by kernel_rfl) ?_) | (refine RA.step (L := [true, true, true, false, false, false, true, false, false, false, false, false, false, false, false, false, false]) (i := 3) (is := [7, 8]) (by kernel_rfl) ?_) | (refine RA.step (L := [true, false, false, false, false, false, true, false, false, false, false, false, false, false, false, false, false]) (i := 1) (is := [2, 7, 8]) (by kernel_rfl) ?_) | (refine RA.step (L := [true, true, false, false, false, false, true, false, false, false, false, false, false, false, false, false, false]) (i := 2) (is := [7, 8]) (by kernel_rfl) ?_) | (refine RA.step (L := [false, false, true, false, false, false, false, false, false, false, false, false, false, false, false, false, false]) (i := 0) (is := [3, 6, 8]) (by kernel_rfl) ?_) | (refine RA.step (L := [false, false, true, true, false, false, false, false, false, false, false, false, false, false, false, false, false]) (i := 0) (is := [6, 8]) (by kernel_rfl) ?_) | (refine RA.step (L := [true, false, true, true, false, false, false, false, false, false, false, false, false, false, false, false, false]) (i := 1) (is := [6, 8]) (by kernel_rfl) ?_) | (refine RA.step (L := [true, true, true, true, false, false, false, false, false, false, false, false, false, false, false, false, false]) (i := 4) (is := [6, 8]) (by kernel_rfl) ?_) | (refine RA.step (L := [true, true, true, true, true, false, false, false, false, false, false, false, false, false, false, false, false]) (i := 5) (is := [6, 8]) (by kernel_rfl) ?_) | (refine RA.step (L := [true, true, true, true, true, true, false, false, false, false, false, false, false, false, false, false, false]) (i := 6) (is := [8]) (by kernel_rfl) ?_) | (refine RA.step (L := [true, false, true, false, false, false, false, false, false, false, false, false, false, false, false, false, false]) (i := 1) (is := [3, 6, 8]) (by kernel_rfl) ?_) | (refine RA.step (L := [true, true, true, false, false, false, false, false, false, false, false, false, false, false, false, false, false]) (i := 3) (is := [6, 8]) (by kernel_rfl) ?_) | (refine RA.step (L := [true, false, false, false, false, false, false, false, false, false, false, false, false, false, false, false, false]) (i := 1) (is := [2, 6, 8]) (by kernel_rfl) ?_) | (refine RA.step (L := [true, true, false, false, false, false, false, false, false, false, false, false, false, false, false, false, false]) (i := 2) (is := [6, 8]) (by kernel_rfl) ?_) | (refine W.condA (ht := fun hb => ?_) (hf := fun hb => ?_) <;> (try simp at hb) <;> (try (exfalso; omega))))
      exact FinM.ret ResM.auto
    · have h3 := sub_ok (digs (mag x)) (digs (mag y)) (digs_norm _).dig (digs_norm _).dig (by omega) (digs_mono my (by omega)) (by rw [val_mag, val_mag]; omega)
      rw [val_mag, val_mag] at h3
      have e0 : x + y = sgn x * (mag x - mag y) ∧ (sgn x = 1 ∨ sgn x = -1 ∨ mag x - mag y = 0) := by
        rcases c1 with h | h | h <;> rcases c2 with h' | h' | h' <;> rw [h.1, h'.1] at hc <;> rw [h.1, h.2.2, h'.2.2] <;> simp at hc ⊢ <;> omega
      have em : mag (x + y) = mag x - mag y := (num_of (by omega) e0.2 e0.1).1
      have h4 := signed_ok (sgn x) (digs (mag x - mag y)) (digs_norm _).dig (by rw [← em]; omega) (x + y) (by rw [val_digs (by omega)]; exact e0.2) (by rw [val_digs (by omega)]; exact e0.1)
      have hcm := cmp_ge (show mag y ≤ mag x by omega)
      generalize cmpI (mag x) (mag y) = cm at *
      generalize x + y = z at *
      refine ACalls.of_M TYok (qs := [zB (fullZ z), cI (fullE z)]) [.cell 4 29, .tmp 5] 69 Try.func81 (by kernel_rfl) rfl rfl rfl fun G => ?_
      refine W.initA (hw := ?_)
      repeat' (first | ((first | apply U_ | (apply Ug_; exact rfl; exact rfl) | (apply Ugq_; exact rfl; exact rfl) | apply Lex.u | (apply Lex.g; exact rfl; exact rfl) | (apply Lex.gq; exact rfl; exact rfl)); (first | exact QX.B TYok | exact QX.Ext TYok | exact QX.Build TYok | exact QCl (h1) | exact QCl (h2) | exact QCd (h3) | exact QCd (h4) | exact QCd (h5) | exact QCl (h6)); exact rfl) | refine SX.Alloc TYok (h := ?_) | refine SX.Store TYok (h := ?_) | refine SX.Lit TYok (h := ?_) | refine SX.Box TYok (h := ?_) | refine SC ?_ | refine SG ?_ | (apply W.draw2 (id := 6) [0, 1, 0, 4, 0, 16, 60, 127, 255, 511, 511, 2047, 4095] [[3], [47], [3], [49], [2], [51], [50, 52], [48, 53], [54], [55], [55]] 11 [(47, 8), (48, 140737488355328), (49, 8), (50, 562949953421312), (51, 4), (52, 2251799813685248), (53, 5629499534213120), (54, 9288674231451648), (55, 18014398509481984), (56, 36028797018963968), (57, 36028797018963968)] mixed (by kernel_rfl) rfl rfl) | (apply W.draw2 (id := 7) [0, 1, 0, 4, 0, 16, 60, 127, 255, 511, 511, 2047, 4095] [[2], [58], [2], [60], [3], [62], [61, 63], [59, 64], [65], [66], [66]] 11 [(58, 4), (59, 288230376151711744), (60, 4), (61, 1152921504606846976), (62, 8), (63, 4611686018427387904), (64, 11529215046068469760), (65, 19023204826012975104), (66, 36893488147419103232), (67, 73786976294838206464), (68, 73786976294838206464)] mixed (by kernel_rfl) rfl rfl) | (refine W.drawA (id := 4) (L := [false, false, false, false, false, false, false, false, false, false, false, false, false, false, false, false, false]) mixed rfl ?_) | exact RAll.nil | (refine RAll.cons rfl ?_ ?_) | (refine RA.step (L := [false, false, false, false, false, false, false, false, false, false, false, false, false, false, false, false, false]) (i := 0) (is := [2, 6, 8]) (by kernel_rfl) ?_) | (refine RA.step (L := [false, false, false, false, false, false, false, false, true, false, false, false, false, false, false, false, false]) (i := 0) (is := [2, 6, 9]) (by kernel_rfl) ?_) | (refine RA.step (L := [false, false, false, false, false, false, false, false, true, true, false, false, false, false, false, false, false]) (i := 0) (is := [2, 6]) (by kernel_rfl) ?_) | (refine RA.step (L := [false, false, false, false, false, false, true, false, true, true, false, false, false, false, false, false, false]) (i := 0) (is := [2, 7]) (by kernel_rfl) ?_) | (refine RA.step (L := [false, false, false, false, false, false, true, true, true, true, false, false, false, false, false, false, false]) (i := 0) (is := [2]) (by kernel_rfl) ?_) | (refine RA.step (L := [false, false, true, false, false, false, true, true, true, true, false, false, false, false, false, false, false]) (i := 0) (is := [3]) (by kernel_rfl) ?_) | (refine RA.step (L := [false, false, true, true, false, false, true, true, true, true, false, false, false, false, false, false, false]) (i := 0) (is := []) (by kernel_rfl) ?_) | (refine RA.step (L := [true, false, true, true, false, false, true, true, true, true, false, false, false, false, false, false, false]) (i := 1) (is := []) (by kernel_rfl) ?_) | (refine RA.step (L := [true, true, true, true, false, false, true, true, true, true, false, false, false, false, false, false, false]) (i := 4) (is := []) (by kernel_rfl) ?_) | (refine RA.step (L := [true, true, true, true, true, false, true, true, true, true, false, false, false, false, false, false, false]) (i := 5) (is := []) (by kernel_rfl) ?_) | (refine RA.step (L := [true, true, true, true, true, true, true, true, true, true, false, false, false, false, false, false, false]) (i := 10) (is := []) (by kernel_rfl) ?_) | (refine RA.step (L := [true, true, true, true, true, true, true, true, true, true, true, false, false, false, false, false, false]) (i := 11) (is := []) (by kernel_rfl) ?_) | (refine RA.step (L := [true, true, true, true, true, true, true, true, true, true, true, true, false, false, false, false, false]) (i := 12) (is := []) (by kernel_rfl) ?_) | (refine RA.step (L := [true, true, true, true, true, true, true, true, true, true, true, true, true, false, false, false, false]) (i := 13) (is := [14]) (by kernel_rfl) ?_) | (refine RA.step (L := [true, true, true, true, true, true, true, true, true, true, true, true, true, false, true, false, false]) (i := 13) (is := []) (by kernel_rfl) ?_) | (refine RA.step (L := [true, true, true, true, true, true, true, true, true, true, true, true, true, true, true, false, false]) (i := 15) (is := []) (by kernel_rfl) ?_) | (refine RA.step (L := [true, true, true, true, true, true, true, true, true, true, true, true, true, true, true, true, false]) (i := 16) (is := []) (by kernel_rfl) ?_) | (refine RA.done (L := [true, true, true, true, true, true, true, true, true, true, true, true, true, true, true, true, true]) (by kernel_rfl) ?_) | (refine RA.step (L := [true, true, true, true, true, true, true, true, true, true, true, true, true, true, false, false, false]) (i := 14) (is := []) (by kernel_rfl) ?_) | (refine RA.step (L := [true, false, true, false, false, false, true, true, true, true, false, false, false, false, false, false, false]) (i := 1) (is := [3]) (by kernel_rfl) ?_) | (refine RA.step (L := [true, true, true, false, false, false, true, true, true, true, false, false, false, false, false, false, false]) (i := 3) (is := []) (by kernel_rfl) ?_) | (refine RA.step (L := [true, false, false, false, false, false, true, true, true, true, false, false, false, false, false, false, false]) (i := 1) (is := [2]) (by kernel_rfl) ?_) | (refine RA.step (L := [true, true, false, false, false, false, true, true, true, true, false, false, false, false, false, false, false]) (i := 2) (is := []) (by kernel_rfl) ?_) | (refine RA.step (L := [false, false, true, false, false, false, true, false, true, true, false, false, false, false, false, false, false]) (i := 0) (is := [3, 7]) (by kernel_rfl) ?_) | (refine RA.step (L := [false, false, true, true, false, false, true, false, true, true, false, false, false, false, false, false, false]) (i := 0) (is := [7]) (by kernel_rfl) ?_) | (refine RA.step (L := [true, false, true, true, false, false, true, false, true, true, false, false, false, false, false, false, false]) (i := 1) (is := [7]) (by kernel_rfl) ?_) | (refine RA.step (L := [true, true, true, true, false, false, true, false, true, true, false, false, false, false, false, false, false]) (i := 4) (is := [7]) (by kernel_rfl) ?_) | (refine RA.step (L := [true, true, true, true, true, false, true, false, true, true, false, false, false, false, false, false, false]) (i := 5) (is := [7]) (by kernel_rfl) ?_) | (refine RA.step (L := [true, true, true, true, true, true, true, false, true, true, false, false, false, false, false, false, false]) (i := 7) (is := []) (by kernel_rfl) ?_) | (refine RA.step (L := [true, false, true, false, false, false, true, false, true, true, false, false, false, false, false, false, false]) (i := 1) (is := [3, 7]) (by kernel_rfl) ?_) | (refine RA.step (L := [true, true, true, false, false, false, true, false, true, true, false, false, false, false, false, false, false]) (i := 3) (is := [7]) (by kernel_rfl) ?_) | (refine RA.step (L := [true, false, false, false, false, false, true, false, true, true, false, false, false, false, false, false, false]) (i := 1) (is := [2, 7]) (by kernel_rfl) ?_) | (refine RA.step (L := [true, true, false, false, false, false, true, false, true, true, false, false, false, false, false, false, false]) (i := 2) (is := [7]) (by kernel_rfl) ?_) | (refine RA.step (L := [false, false, true, false, false, false, false, false, true, true, false, false, false, false, false, false, false]) (i := 0) (is := [3, 6]) (by kernel_rfl) ?_) | (refine RA.step (L := [false, false, true, true, false, false, false, false, true, true, false, false, false, false, false, false, false]) (i := 0) (is := [6]) (by kernel_rfl) ?_) | (refine RA.step (L := [true, false, true, true, false, false, false, false, true, true, false, false, false, false, false, false, false]) (i := 1) (is := [6]) (by kernel_rfl) ?_) | (refine RA.step (L := [true, true, true, true, false, false, false, false, true, true, false, false, false, false, false, false, false]) (i := 4) (is := [6]) (by kernel_rfl) ?_) | (refine RA.step (L := [true, true, true, true, true, false, false, false, true, true, false, false, false, false, false, false, false]) (i := 5) (is := [6]) (by kernel_rfl) ?_) | (refine RA.step (L := [true, true, true, true, true, true, false, false, true, true, false, false, false, false, false, false, false]) (i := 6) (is := []) (by kernel_rfl) ?_) | (refine RA.step (L := [true, false, true, false, false, false, false, false, true, true, false, false, false, false, false, false, false]) (i := 1) (is := [3, 6]) (by kernel_rfl) ?_) | (refine RA.step (L := [true, true, true, false, false, false, false, false, true, true, false, false, false, false, false, false, false]) (i := 3) (is := [6]) (by kernel_rfl) ?_) | (refine RA.step (L := [true, false, false, false, false, false, false, false, true, true, false, false, false, false, false, false, false]) (i := 1) (is := [2, 6]) (by kernel_rfl) ?_) | (refine RA.step (L := [true, true, false, false, false, false, false, false, true, true, false, false, false, false, false, false, false]) (i := 2) (is := [6]) (by kernel_rfl) ?_) | (refine RA.step (L := [false, false, false, false, false, false, true, false, true, false, false, false, false, false, false, false, false]) (i := 0) (is := [2, 7, 9]) (by kernel_rfl) ?_) | (refine RA.step (L := [false, false, false, false, false, false, true, true, true, false, false, false, false, false, false, false, false]) (i := 0) (is := [2, 9]) (by kernel_rfl) ?_) | (refine RA.step (L := [false, false, true, false, false, false, true, true, true, false, false, false, false, false, false, false, false]) (i := 0) (is := [3, 9]) (by kernel_rfl) ?_) | (refine RA.step (L := [false, false, true, true, false, false, true, true, true, false, false, false, false, false, false, false, false]) (i := 0) (is := [9]) (by kernel_rfl) ?_) | (refine RA.step (L := [true, false, true, true, false, false, true, true, true, false, false, false, false, false, false, false, false]) (i := 1) (is := [9]) (by kernel_rfl) ?_) | (refine RA.step (L := [true, true, true, true, false, false, true, true, true, false, false, false, false, false, false, false, false]) (i := 4) (is := [9]) (by kernel_rfl) ?_) | (refine RA.step (L := [true, true, true, true, true, false, true, true, true, false, false, false, false, false, false, false, false]) (i := 5) (is := [9]) (by kernel_rfl) ?_) | (refine RA.step (L := [true, true, true, true, true, true, true, true, true, false, false, false, false, false, false, false, false]) (i := 9) (is := []) (by kernel_rfl) ?_) | (refine RA.step (L := [true, false, true, false, false, false, true, true, true, false, false, false, false, false, false, false, false]) (i := 1) (is := [3, 9]) (by kernel_rfl) ?_) | (refine RA.step (L := [true, true, true, false, false, false, true, true, true, false, false, false, false, false, false, false, false]) (i := 3) (is := [9]) (by kernel_rfl) ?_) | (refine RA.step (L := [true, false, false, false, false, false, true, true, true, false, false, false, false, false, false, false, false]) (i := 1) (is := [2, 9]) (by kernel_rfl) ?_) | (refine RA.step (L := [true, true, false, false, false, false, true, true, true, false, false, false, false, false, false, false, false]) (i := 2) (is := [9]) (by kernel_rfl) ?_) | (refine RA.step (L := [false, false, true, false, false, false, true, false, true, false, false, false, false, false, false, false, false]) (i := 0) (is := [3, 7, 9]) (by kernel_rfl) ?_) | (refine RA.step (L := [false, false, true, true, false, false, true, false, true, false, false, false, false, false, false, false, false]) (i := 0) (is := [7, 9]) (by kernel_rfl) ?_) | (refine RA.step (L := [true, false, true, true, false, false, true, false, true, false, false, false, false, false, false, false, false]) (i := 1) (is := [7, 9]) (by kernel_rfl) ?_) | (refine RA.step (L := [true, true, true, true, false, false, true, false, true, false, false, false, false, false, false, false, false]) (i := 4) (is := [7, 9]) (by kernel_rfl) ?_) | (refine RA.step (L := [true, true, true, true, true, false, true, false, true, false, false, false, false, false, false, false, false]) (i := 5) (is := [7, 9]) (by kernel_rfl) ?_) | (refine RA.step (L := [true, true, true, true, true, true, true, false, true, false, false, false, false, false, false, false, false]) (i := 7) (is := [9]) (by kernel_rfl) ?_) | (refine RA.step (L := [true, false, true, false, false, false, true, false, true, false, false, false, false, false, false, false, false]) (i := 1) (is := [3, 7, 9]) (by kernel_rfl) ?_) | (refine RA.step (L := [true, true, true, false, false, false, true, false, true, false, false, false, false, false, false, false, false]) (i := 3) (is := [7, 9]) (by kernel_rfl) ?_) | (refine RA.step (L := [true, false, false, false, false, false, true, false, true, false, false, false, false, false, false, false, false]) (i := 1) (is := [2, 7, 9]) (by kernel_rfl) ?_) | (refine RA.step (L := [true, true, false, false, false, false, true, false, true, false, false, false, false, false, false, false, false]) (i := 2) (is := [7, 9]) (by kernel_rfl) ?_) | (refine RA.step (L := [false, false, true, false, false, false, false, false, true, false, false, false, false, false, false, false, false]) (i := 0) (is := [3, 6, 9]) (by kernel_rfl) ?_) | (refine RA.step (L := [false, false, true, true, false, false, false, false, true, false, false, false, false, false, false, false, false]) (i := 0) (is := [6, 9]) (by kernel_rfl) ?_) | (refine RA.step (L := [true, false, true, true, false, false, false, false, true, false, false, false, false, false, false, false, false]) (i := 1) (is := [6, 9]) (by kernel_rfl) ?_) | (refine RA.step (L := [true, true, true, true, false, false, false, false, true, false, false, false, false, false, false, false, false]) (i := 4) (is := [6, 9]) (by kernel_rfl) ?_) | (refine RA.step (L := [true, true, true, true, true, false, false, false, true, false, false, false, false, false, false, false, false]) (i := 5) (is := [6, 9]) (by kernel_rfl) ?_) | (refine RA.step (L := [true, true, true, true, true, true, false, false, true, false, false, false, false, false, false, false, false]) (i := 6) (is := [9]) (by kernel_rfl) ?_) | (refine RA.step (L := [true, false, true, false, false, false, false, false, true, false, false, false, false, false, false, false, false]) (i := 1) (is := [3, 6, 9]) (by kernel_rfl) ?_) | (refine RA.step (L := [true, true, true, false, false, false, false, false, true, false, false, false, false, false, false, false, false]) (i := 3) (is := [6, 9]) (by kernel_rfl) ?_) | (refine RA.step (L := [true, false, false, false, false, false, false, false, true, false, false, false, false, false, false, false, false]) (i := 1) (is := [2, 6, 9]) (by kernel_rfl) ?_) | (refine RA.step (L := [true, true, false, false, false, false, false, false, true, false, false, false, false, false, false, false, false]) (i := 2) (is := [6, 9]) (by kernel_rfl) ?_) | (refine RA.step (L := [false, false, false, false, false, false, true, false, false, false, false, false, false, false, false, false, false]) (i := 0) (is := [2, 7, 8]) (by kernel_rfl) ?_) | (refine RA.step (L := [false, false, false, false, false, false, true, true, false, false, false, false, false, false, false, false, false]) (i := 0) (is := [2, 8]) (by kernel_rfl) ?_) | (refine RA.step (L := [false, false, true, false, false, false, true, true, false, false, false, false, false, false, false, false, false]) (i := 0) (is := [3, 8]) (by kernel_rfl) ?_) | (refine RA.step (L := [false, false, true, true, false, false, true, true, false, false, false, false, false, false, false, false, false]) (i := 0) (is := [8]) (by kernel_rfl) ?_) | (refine RA.step (L := [true, false, true, true, false, false, true, true, false, false, false, false, false, false, false, false, false]) (i := 1) (is := [8]) (by kernel_rfl) ?_) | (refine RA.step (L := [true, true, true, true, false, false, true, true, false, false, false, false, false, false, false, false, false]) (i := 4) (is := [8]) (by kernel_rfl) ?_) | (refine RA.step (L := [true, true, true, true, true, false, true, true, false, false, false, false, false, false, false, false, false]) (i := 5) (is := [8]) (by kernel_rfl) ?_) | (refine RA.step (L := [true, true, true, true, true, true, true, true, false, false, false, false, false, false, false, false, false]) (i := 8) (is := []) (by kernel_rfl) ?_) | (refine RA.step (L := [true, false, true, false, false, false, true, true, false, false, false, false, false, false, false, false, false]) (i := 1) (is := [3, 8]) (by kernel_rfl) ?_) | (refine RA.step (L := [true, true, true, false, false, false, true, true, false, false, false, false, false, false, false, false, false]) (i := 3) (is := [8]) (by kernel_rfl) ?_) | (refine RA.step (L := [true, false, false, false, false, false, true, true, false, false, false, false, false, false, false, false, false]) (i := 1) (is := [2, 8]) (by kernel_rfl) ?_) | (refine RA.step (L := [true, true, false, false, false, false, true, true, false, false, false, false, false, false, false, false, false]) (i := 2) (is := [8]) (by kernel_rfl) ?_) | (refine RA.step (L := [false, false, true, false, false, false, true, false, false, false, false, false, false, false, false, false, false]) (i := 0) (is := [3, 7, 8]) (by kernel_rfl) ?_) | (refine RA.step (L := [false, false, true, true, false, false, true, false, false, false, false, false, false, false, false, false, false]) (i := 0) (is := [7, 8]) (by kernel_rfl) ?_) | (refine RA.step (L := [true, false, true, true, false, false, true, false, false, false, false, false, false, false, false, false, false]) (i := 1) (is := [7, 8]) (by kernel_rfl) ?_) | (refine RA.step (L := [true, true, true, true, false, false, true, false, false, false, false, false, false, false, false, false, false]) (i := 4) (is := [7, 8]) (by kernel_rfl) ?_) | (refine RA.step (L := [true, true, true, true, true, false, true, false, false, false, false, false, false, false, false, false, false]) (i := 5) (is := [7, 8]) (by kernel_rfl) ?_) | (refine RA.step (L := [true, true, true, true, true, true, true, false, false, false, false, false, false, false, false, false, false]) (i := 7) (is := [8]) (by kernel_rfl) ?_) | (refine RA.step (L := [true, false, true, false, false, false, true, false, false, false, false, false, false, false, false, false, false]) (i := 1) (is := [3, 7, 8]) (by kernel_rfl) ?_) | (refine RA.step (L := [true, true, true, false, false, false, true, false, false, false, false, false, false, false, false, false, false]) (i := 3) (is := [7, 8]) (by kernel_rfl) ?_) | (refine RA.step (L := [true, false, false, false, false, false, true, false, false, false, false, false, false, false, false, false, false]) (i := 1) (is := [2, 7, 8]) (by kernel_rfl) ?_) | (refine RA.step (L := [true, true, false, false, false, false, true, false, false, false, false, false, false, false, false, false, false]) (i := 2) (is := [7, 8]) (by kernel_rfl) ?_) | (refine RA.step (L := [false, false, true, false, false, false, false, false, false, false, false, false, false, false, false, false, false]) (i := 0) (is := [3, 6, 8]) (by kernel_rfl) ?_) | (refine RA.step (L := [false, false, true, true, false, false, false, false, false, false, false, false, false, false, false, false, false]) (i := 0) (is := [6, 8]) (by kernel_rfl) ?_) | (refine RA.step (L := [true, false, true, true, false, false, false, false, false, false, false, false, false, false, false, false, false]) (i := 1) (is := [6, 8]) (by kernel_rfl) ?_) | (refine RA.step (L := [true, true, true, true, false, false, false, false, false, false, false, false, false, false, false, false, false]) (i := 4) (is := [6, 8]) (by kernel_rfl) ?_) | (refine RA.step (L := [true, true, true, true, true, false, false, false, false, false, false, false, false, false, false, false, false]) (i := 5) (is := [6, 8]) (by kernel_rfl) ?_) | (refine RA.step (L := [true, true, true, true, true, true, false, false, false, false, false, false, false, false, false, false, false]) (i := 6) (is := [8]) (by kernel_rfl) ?_) | (refine RA.step (L := [true, false, true, false, false, false, false, false, false, false, false, false, false, false, false, false, false]) (i := 1) (is := [3, 6, 8]) (by kernel_rfl) ?_) | (refine RA.step (L := [true, true, true, false, false, false, false, false, false, false, false, false, false, false, false, false, false]) (i := 3) (is := [6, 8]) (by kernel_rfl) ?_) | (refine RA.step (L := [true, false, false, false, false, false, false, false, false, false, false, false, false, false, false, false, false]) (i := 1) (is := [2, 6, 8]) (by kernel_rfl) ?_) | (refine RA.step (L := [true, true, false, false, false, false, false, false, false, false, false, false, false, false, false, false, false]) (i := 2) (is := [6, 8]) (by kernel_rfl) ?_) | (refine W.condA (ht := fun hb => ?_) (hf := fun hb => ?_) <;> (try simp at hb) <;> (try (exfalso; omega))))
      exact FinM.ret ResM.auto
end Go.Proofs.Ytgpcmgjdkefdjaa
end
section
set_option linter.unusedVariables false
set_option linter.unusedSimpArgs false
set_option maxHeartbeats 8000000
namespace Go.Proofs.Ytgpcmgjdkefdjaa
open Lf Go
attribute [local irreducible] PureOp EffOp Ev RG W Then InBlock Lf.Fin nth App InitE Pick SubE EvL EvD EvP EvR ResL Lf.Lex SubR SubBR RA RAll EvC FinO FinM ResM ResD FinS val pw digs trimL
theorem okZ_neg {x : Int} (h : okZ x) : okZ (-x) := okZ.of (by have := h.lt; omega)
theorem cmpZ_ok (x y : Int) (hx : okZ x) (hy : okZ y) : ACalls Try.prog 66 [zB x, zB y] (.pv (cI (cmpI x y))) := by
  have h1 := right_yes hx
  have h2 := right_yes hy
  have l1 := num_len hx
  have l2 := num_len hy
  have h3 := cmp_ok (sgn x) (sgn y)
  have h4 := compare_ok (digs (mag x)) (digs (mag y)) (digs_norm _) (digs_norm _) (by omega) (by omega)
  rw [val_mag, val_mag] at h4
  have c1 := sgn_cases x
  have c2 := sgn_cases y
  by_cases hs : sgn x = sgn y
  · have e : cmpI x y = sgn x * cmpI (mag x) (mag y) ∧ -1 ≤ sgn x * cmpI (mag x) (mag y) ∧ sgn x * cmpI (mag x) (mag y) ≤ 1 := by
      unfold cmpI
      rcases c1 with h | h | h <;> rcases c2 with h' | h' | h' <;> rw [h.1, h'.1] at hs <;> first | (exfalso; omega) | (rw [h.1, h.2.2, h'.2.2]; repeat' split) <;> omega
    rw [e.1]
    refine ACalls.of_W (qs := [cI (sgn x * cmpI (mag x) (mag y))]) [4] 31 Try.func66 (by kernel_rfl) rfl rfl rfl fun G => ?_
    refine W.initA (hw := ?_)
    repeat' (first | ((first | apply U_ | (apply Ug_; exact rfl; exact rfl) | (apply Ugq_; exact rfl; exact rfl) | apply Lex.u | (apply Lex.g; exact rfl; exact rfl) | (apply Lex.gq; exact rfl; exact rfl)); (first | exact QX.B TYok | exact QCl (h1) | exact QCl (h2) | exact QCl (h3) | exact QCl (h4)); exact rfl) | refine SX.Box TYok (h := ?_) | refine SC ?_ | refine SG ?_ | (apply W.draw2 (id := 5) [0, 1, 0, 4, 0, 16, 60, 127, 255] [[2], [23], [2], [25], [3], [27], [26, 28], [24, 29], [30]] 9 [(23, 4), (24, 8388608), (25, 4), (26, 33554432), (27, 8), (28, 134217728), (29, 335544320), (30, 553648128), (4, 1073741824)] mixed (by kernel_rfl) rfl rfl) | (refine W.condA (ht := fun hb => ?_) (hf := fun hb => ?_) <;> (try simp at hb) <;> (try (exfalso; omega))))
    exact Fin.ret ResL.auto
  · have e : cmpI (sgn x) (sgn y) = cmpI x y := by
      unfold cmpI
      rcases c1 with h | h | h <;> rcases c2 with h' | h' | h' <;> rw [h.1, h'.1] at hs <;> first | (exfalso; omega) | (rw [h.1, h'.1]; repeat' split) <;> omega
    rw [e] at h3
    refine ACalls.of_W (qs := [cI (cmpI x y)]) [4] 31 Try.func66 (by kernel_rfl) rfl rfl rfl fun G => ?_
    refine W.initA (hw := ?_)
    repeat' (first | ((first | apply U_ | (apply Ug_; exact rfl; exact rfl) | (apply Ugq_; exact rfl; exact rfl) | apply Lex.u | (apply Lex.g; exact rfl; exact rfl) | (apply Lex.gq; exact rfl; exact rfl)); (first | exact QX.B TYok | exact QCl (h1) | exact QCl (h2) | exact QCl (h3) | exact QCl (h4)); exact rfl) | refine SX.Box TYok (h := ?_) | refine SC ?_ | refine SG ?_ | (apply W.draw2 (id := 5) [0, 1, 0, 4, 0, 16, 60, 127, 255] [[2], [23], [2], [25], [3], [27], [26, 28], [24, 29], [30]] 9 [(23, 4), (24, 8388608), (25, 4), (26, 33554432), (27, 8), (28, 134217728), (29, 335544320), (30, 553648128), (4, 1073741824)] mixed (by kernel_rfl) rfl rfl) | (refine W.condA (ht := fun hb => ?_) (hf := fun hb => ?_) <;> (try simp at hb) <;> (try (exfalso; omega))))
    exact Fin.ret ResL.auto
theorem divZ_ok (x y : Int) (hx : okZ x) (hy : okZ y) (h0 : y ≠ 0) : ACalls Try.prog 65 [zB x, zB y] (.tup [zB (quoZ x y), zB (remZ x y), cI 0]) := by
  have h1 := right_yes hx
  have h2 := right_yes hy
  have l1 := num_len hx
  have l2 := num_len hy
  have hs := mul_sgn x y
  have c1 := sgn_cases x
  have c2 := sgn_cases y
  have mx := mag_nn x
  have my : 0 < mag y := by omega
  have h3 := div_ok (digs (mag x)) (digs (mag y)) (digs_norm _) (digs_norm _) (by omega) (by omega) (fun e => by rw [digs_nil (by omega)] at e; omega)
  rw [val_mag, val_mag] at h3
  have hq := Int.ediv_nonneg mx (show 0 ≤ mag y by omega)
  have hq2 : mag x / mag y ≤ mag x := Int.ediv_le_self _ mx
  have hr := Int.emod_nonneg (mag x) (show mag y ≠ 0 by omega)
  have hr2 := Int.emod_lt_of_pos (mag x) my
  have hm := Int.emod_add_mul_ediv (mag x) (mag y)
  have lq := digs_mono hq hq2
  have lr := digs_mono hr (show mag x % mag y ≤ mag y by omega)
  generalize mag x / mag y = q at *
  generalize mag x % mag y = r at *
  have hr0 : (digs r).length = 0 ↔ r = 0 := by rw [List.length_eq_zero_iff, digs_nil hr]
  by_cases hc : sgn x * sgn y < 0 ∧ 0 < r
  · have hne : 0 < (digs r).length := by omega
    have hxy : (x < 0 ∧ 0 < y) ∨ (0 < x ∧ y < 0) := by
      rcases c1 with h | h | h <;> rcases c2 with h' | h' | h' <;> rw [h.1, h'.1] at hc <;> first | (exfalso; omega) | omega
    have h4 := add_ok (digs q) [1] (digs_norm _).dig (Dig.cons (by omega) Dig.nil) (by omega) (by simp)
    rw [val_digs hq, val_one] at h4
    have h5 := sub_ok (digs (mag y)) (digs r) (digs_norm _).dig (digs_norm _).dig (by omega) lr (by rw [val_mag, val_digs hr]; omega)
    rw [val_mag, val_digs hr] at h5
    have l6 := digs_mono (show 0 ≤ mag y - r by omega) (show mag y - r ≤ mag y by omega)
    have l7 : (digs (q + 1)).length ≤ 100 := (digs_len (by omega)).2 (by
      have := hx; unfold okZ at this
      have := pw_lt (show 60 < 100 by omega); omega)
    obtain ⟨u1, u2⟩ := quo_uniq (x := x) (q := -(q + 1)) (r := sgn y * (mag y - r)) h0 (by
        rcases hxy with h | h
        · have e1 : mag x = -x := by omega
          have e2 : mag y = y := by omega
          have e3 : sgn y = 1 := by omega
          rw [e3, e2]; rw [e1, e2] at hm; grind
        · have e1 : mag x = x := by omega
          have e2 : mag y = -y := by omega
          have e3 : sgn y = -1 := by omega
          rw [e3, e2]; rw [e1, e2] at hm; grind)
      (fun hp => by rw [show sgn y = 1 by omega]; omega) (fun hp => by rw [show sgn y = -1 by omega]; omega)
    rw [← u1, ← u2]
    have h6 := signed_ok (-1) (digs (q + 1)) (digs_norm _).dig (by omega) (-(q + 1)) (.inr (.inl rfl)) (by rw [val_digs (by omega)]; omega)
    have h7 := signed_ok (sgn y) (digs (mag y - r)) (digs_norm _).dig (by omega) (sgn y * (mag y - r)) (by omega) (by rw [val_digs (by omega)])
    generalize sgn y * (mag y - r) = z2 at *
    generalize -(q + 1) = z1 at *
    refine ACalls.of_M TYok (qs := [zB z1, zB z2, cI 0]) [.cell 4 29, .cell 5 29, .tmp 6] 67 Try.func65 (by kernel_rfl) rfl rfl rfl fun G => ?_
    refine W.initA (hw := ?_)
    repeat' (first | ((first | apply U_ | (apply Ug_; exact rfl; exact rfl) | (apply Ugq_; exact rfl; exact rfl) | apply Lex.u | (apply Lex.g; exact rfl; exact rfl) | (apply Lex.gq; exact rfl; exact rfl)); (first | (apply Q_litD TYok; (repeat (first | exact EvR.nil | apply EvR.cons Ev.auto)); exact rfl; exact rfl; exact rfl; exact rfl; exact rfl; exact rfl) | exact QX.B TYok | exact QX.Len TYok | exact QX.Ext TYok | exact QX.Build TYok | exact QCl (h1) | exact QCl (h2) | exact QCd (h3) | exact QCd (h5) | exact QCd (h6) | exact QCd (h7) | exact QCd (h4)); exact rfl) | refine SX.Alloc TYok (h := ?_) | refine SX.Store TYok (h := ?_) | refine SX.Lit TYok (h := ?_) | refine SX.Box TYok (h := ?_) | refine SC ?_ | (apply S_isnil TYok; exact rfl; exact rfl; exact rfl; exact Ev.auto; intro bn hnil) | refine SG ?_ | (apply W.draw2 (id := 7) [0, 0, 3, 7, 0, 16, 0, 64, 0, 463, 1023, 2047, 4095, 8191] [[7], [], [45, 46], [47], [3], [49], [3], [51], [8], [52, 53]] 10 [(45, 128), (46, 0), (47, 105553116266496), (48, 140737488355328), (49, 8), (50, 562949953421312), (51, 8), (52, 2251799813685248), (53, 256), (54, 13510798882111488)] mixed (by kernel_rfl) rfl rfl) | (apply W.draw2 (id := 8) [0, 1, 0, 4, 15, 0, 63, 0, 128, 0, 1023, 2047, 4095, 8191] [[2], [56], [3], [58], [57, 59], [7], [60, 61], [2], [63], [8], [64, 65]] 11 [(56, 4), (57, 72057594037927936), (58, 8), (59, 288230376151711744), (60, 720575940379279360), (61, 128), (62, 3458764513820540928), (63, 4), (64, 9223372036854775808), (65, 256), (66, 55340232221128654848)] mixed (by kernel_rfl) rfl rfl) | (refine W.condA (ht := fun hb => ?_) (hf := fun hb => ?_) <;> (try simp at hb) <;> (try (exfalso; omega))))
    · exact FinM.ret ResM.auto
    · exact absurd (hb hc.1) (fun e => by rw [e] at hne; simp at hne)
  · have hcc : ¬ (sgn x * sgn y < 0 ∧ 0 < (digs r).length) := by omega
    have hxy : (x = 0) ∨ (0 < x ∧ 0 < y) ∨ (x < 0 ∧ y < 0) ∨ r = 0 := by
      by_cases hr' : r = 0
      · exact .inr (.inr (.inr hr'))
      · have hc2 : ¬ sgn x * sgn y < 0 := fun q => hc ⟨q, by omega⟩
        rcases c1 with h | h | h
        · rcases c2 with h' | h' | h'
          · omega
          · omega
          · rw [h.1, h'.1] at hc2; exact absurd (by decide) hc2
        · exact .inl h.2.1
        · rcases c2 with h' | h' | h'
          · rw [h.1, h'.1] at hc2; exact absurd (by decide) hc2
          · omega
          · omega
    have hq0 : x = 0 → q = 0 := fun h => by
      have : mag x = 0 := by omega
      omega
    have hsm : sgn x * sgn y = 1 ∨ sgn x * sgn y = -1 ∨ q = 0 := by
      rcases c1 with h | h | h
      · rcases c2 with h' | h' | h'
        · rw [h.1, h'.1]; exact .inl rfl
        · exact absurd h'.2.1 h0
        · rw [h.1, h'.1]; exact .inr (.inl rfl)
      · exact .inr (.inr (hq0 h.2.1))
      · rcases c2 with h' | h' | h'
        · rw [h.1, h'.1]; exact .inr (.inl rfl)
        · exact absurd h'.2.1 h0
        · rw [h.1, h'.1]; exact .inl rfl
    have hsx : sgn x = 1 ∨ sgn x = -1 ∨ r = 0 := by
      rcases c1 with h | h | h
      · exact .inr (.inl h.1)
      · have e := hq0 h.2.1
        rw [e, Int.mul_zero] at hm
        exact .inr (.inr (by omega))
      · exact .inl h.1
    obtain ⟨u1, u2⟩ := quo_uniq (x := x) (q := sgn x * sgn y * q) (r := sgn x * r) h0 (by
        have e1 := sgn_mag x
        have e2 := sgn_mag y
        have e3 : sgn y * sgn y = 1 := by
          rcases c2 with h | h | h
          · rw [h.1]; rfl
          · exact absurd h.2.1 h0
          · rw [h.1]; rfl
        generalize sgn x = sx at *
        generalize sgn y = sy at *
        generalize mag x = px at *
        generalize mag y = py at *
        subst e1; subst e2
        rw [← hm]
        have e4 : sy * py * (sx * sy * q) = sx * (py * q) * (sy * sy) := by grind
        rw [e4, e3]; grind)
      (fun hp => by
        rcases hxy with h | h | h | h
        · rw [show sgn x = 0 by omega]; omega
        · rw [show sgn x = 1 by omega]; omega
        · omega
        · rw [h, Int.mul_zero]; omega)
      (fun hp => by
        rcases hxy with h | h | h | h
        · rw [show sgn x = 0 by omega]; omega
        · omega
        · rw [show sgn x = -1 by omega]; omega
        · rw [h, Int.mul_zero]; omega)
    rw [← u1, ← u2]
    have h6 := signed_ok (sgn x * sgn y) (digs q) (digs_norm _).dig (by omega) (sgn x * sgn y * q) (by rw [val_digs hq]; exact hsm) (by rw [val_digs hq])
    have h7 := signed_ok (sgn x) (digs r) (digs_norm _).dig (by omega) (sgn x * r) (by rw [val_digs hr]; exact hsx) (by rw [val_digs hr])
    generalize sgn x * sgn y * q = z1 at *
    generalize sgn x * r = z2 at *
    refine ACalls.of_M TYok (qs := [zB z1, zB z2, cI 0]) [.cell 4 29, .cell 5 29, .tmp 6] 67 Try.func65 (by kernel_rfl) rfl rfl rfl fun G => ?_
    refine W.initA (hw := ?_)
    repeat' (first | ((first | apply U_ | (apply Ug_; exact rfl; exact rfl) | (apply Ugq_; exact rfl; exact rfl) | apply Lex.u | (apply Lex.g; exact rfl; exact rfl) | (apply Lex.gq; exact rfl; exact rfl)); (first | exact QX.B TYok | exact QX.Len TYok | exact QX.Ext TYok | exact QX.Build TYok | exact QCl (h1) | exact QCl (h2) | exact QCd (h3) | exact QCd (h6) | exact QCd (h7)); exact rfl) | refine SX.Alloc TYok (h := ?_) | refine SX.Store TYok (h := ?_) | refine SX.Lit TYok (h := ?_) | refine SX.Box TYok (h := ?_) | refine SC ?_ | (apply S_isnil TYok; exact rfl; exact rfl; exact rfl; exact Ev.auto; intro bn hnil) | refine SG ?_ | (apply W.draw2 (id := 8) [0, 1, 0, 4, 15, 0, 63, 0, 128, 0, 1023, 2047, 4095, 8191] [[2], [56], [3], [58], [57, 59], [7], [60, 61], [2], [63], [8], [64, 65]] 11 [(56, 4), (57, 72057594037927936), (58, 8), (59, 288230376151711744), (60, 720575940379279360), (61, 128), (62, 3458764513820540928), (63, 4), (64, 9223372036854775808), (65, 256), (66, 55340232221128654848)] mixed (by kernel_rfl) rfl rfl) | (refine W.drawA (id := 7) (L := [false, false, false, false, false, false, false, false, false, false, false, false, false, false]) mixed rfl ?_) | exact RAll.nil | (refine RAll.cons rfl ?_ ?_) | (refine RA.step (L := [false, false, false, false, false, false, false, false, false, false, false, false, false, false]) (i := 0) (is := [1, 4, 6, 8]) (by kernel_rfl) ?_) | (refine RA.step (L := [false, false, false, false, false, false, false, false, true, false, false, false, false, false]) (i := 0) (is := [1, 4, 6]) (by kernel_rfl) ?_) | (refine RA.step (L := [false, false, false, false, false, false, true, false, true, false, false, false, false, false]) (i := 0) (is := [1, 4, 7]) (by kernel_rfl) ?_) | (refine RA.step (L := [false, false, false, false, false, false, true, true, true, false, false, false, false, false]) (i := 0) (is := [1, 4]) (by kernel_rfl) ?_) | (refine RA.step (L := [false, false, false, false, true, false, true, true, true, false, false, false, false, false]) (i := 0) (is := [1, 5]) (by kernel_rfl) ?_) | (refine RA.step (L := [false, false, false, false, true, true, true, true, true, false, false, false, false, false]) (i := 0) (is := [1]) (by kernel_rfl) ?_) | (refine RA.step (L := [false, true, false, false, true, true, true, true, true, false, false, false, false, false]) (i := 0) (is := []) (by kernel_rfl) ?_) | (refine RA.step (L := [true, true, false, false, true, true, true, true, true, false, false, false, false, false]) (i := 2) (is := []) (by kernel_rfl) ?_) | (refine RA.step (L := [true, true, true, false, true, true, true, true, true, false, false, false, false, false]) (i := 3) (is := []) (by kernel_rfl) ?_) | (refine RA.step (L := [true, true, true, true, true, true, true, true, true, false, false, false, false, false]) (i := 9) (is := []) (by kernel_rfl) ?_) | (refine RA.step (L := [true, true, true, true, true, true, true, true, true, true, false, false, false, false]) (i := 10) (is := []) (by kernel_rfl) ?_) | (refine RA.step (L := [true, true, true, true, true, true, true, true, true, true, true, false, false, false]) (i := 11) (is := []) (by kernel_rfl) ?_) | (refine RA.step (L := [true, true, true, true, true, true, true, true, true, true, true, true, false, false]) (i := 12) (is := []) (by kernel_rfl) ?_) | (refine RA.step (L := [true, true, true, true, true, true, true, true, true, true, true, true, true, false]) (i := 13) (is := []) (by kernel_rfl) ?_) | (refine RA.done (L := [true, true, true, true, true, true, true, true, true, true, true, true, true, true]) (by kernel_rfl) ?_) | (refine RA.step (L := [true, false, false, false, true, true, true, true, true, false, false, false, false, false]) (i := 1) (is := []) (by kernel_rfl) ?_) | (refine RA.step (L := [false, true, false, false, true, false, true, true, true, false, false, false, false, false]) (i := 0) (is := [5]) (by kernel_rfl) ?_) | (refine RA.step (L := [true, true, false, false, true, false, true, true, true, false, false, false, false, false]) (i := 2) (is := [5]) (by kernel_rfl) ?_) | (refine RA.step (L := [true, true, true, false, true, false, true, true, true, false, false, false, false, false]) (i := 3) (is := [5]) (by kernel_rfl) ?_) | (refine RA.step (L := [true, true, true, true, true, false, true, true, true, false, false, false, false, false]) (i := 5) (is := [9]) (by kernel_rfl) ?_) | (refine RA.step (L := [true, true, true, true, true, false, true, true, true, true, false, false, false, false]) (i := 5) (is := []) (by kernel_rfl) ?_) | (refine RA.step (L := [true, false, false, false, true, false, true, true, true, false, false, false, false, false]) (i := 1) (is := [5]) (by kernel_rfl) ?_) | (refine RA.step (L := [false, true, false, false, false, false, true, true, true, false, false, false, false, false]) (i := 0) (is := [4]) (by kernel_rfl) ?_) | (refine RA.step (L := [true, true, false, false, false, false, true, true, true, false, false, false, false, false]) (i := 2) (is := [4]) (by kernel_rfl) ?_) | (refine RA.step (L := [true, true, true, false, false, false, true, true, true, false, false, false, false, false]) (i := 3) (is := [4]) (by kernel_rfl) ?_) | (refine RA.step (L := [true, true, true, true, false, false, true, true, true, false, false, false, false, false]) (i := 4) (is := [9]) (by kernel_rfl) ?_) | (refine RA.step (L := [true, true, true, true, false, false, true, true, true, true, false, false, false, false]) (i := 4) (is := []) (by kernel_rfl) ?_) | (refine RA.step (L := [true, false, false, false, false, false, true, true, true, false, false, false, false, false]) (i := 1) (is := [4]) (by kernel_rfl) ?_) | (refine RA.step (L := [false, false, false, false, true, false, true, false, true, false, false, false, false, false]) (i := 0) (is := [1, 5, 7]) (by kernel_rfl) ?_) | (refine RA.step (L := [false, false, false, false, true, true, true, false, true, false, false, false, false, false]) (i := 0) (is := [1, 7]) (by kernel_rfl) ?_) | (refine RA.step (L := [false, true, false, false, true, true, true, false, true, false, false, false, false, false]) (i := 0) (is := [7]) (by kernel_rfl) ?_) | (refine RA.step (L := [true, true, false, false, true, true, true, false, true, false, false, false, false, false]) (i := 2) (is := [7]) (by kernel_rfl) ?_) | (refine RA.step (L := [true, true, true, false, true, true, true, false, true, false, false, false, false, false]) (i := 3) (is := [7]) (by kernel_rfl) ?_) | (refine RA.step (L := [true, true, true, true, true, true, true, false, true, false, false, false, false, false]) (i := 7) (is := []) (by kernel_rfl) ?_) | (refine RA.step (L := [true, false, false, false, true, true, true, false, true, false, false, false, false, false]) (i := 1) (is := [7]) (by kernel_rfl) ?_) | (refine RA.step (L := [false, true, false, false, true, false, true, false, true, false, false, false, false, false]) (i := 0) (is := [5, 7]) (by kernel_rfl) ?_) | (refine RA.step (L := [true, true, false, false, true, false, true, false, true, false, false, false, false, false]) (i := 2) (is := [5, 7]) (by kernel_rfl) ?_) | (refine RA.step (L := [true, true, true, false, true, false, true, false, true, false, false, false, false, false]) (i := 3) (is := [5, 7]) (by kernel_rfl) ?_) | (refine RA.step (L := [true, true, true, true, true, false, true, false, true, false, false, false, false, false]) (i := 5) (is := [7]) (by kernel_rfl) ?_) | (refine RA.step (L := [true, false, false, false, true, false, true, false, true, false, false, false, false, false]) (i := 1) (is := [5, 7]) (by kernel_rfl) ?_) | (refine RA.step (L := [false, true, false, false, false, false, true, false, true, false, false, false, false, false]) (i := 0) (is := [4, 7]) (by kernel_rfl) ?_) | (refine RA.step (L := [true, true, false, false, false, false, true, false, true, false, false, false, false, false]) (i := 2) (is := [4, 7]) (by kernel_rfl) ?_) | (refine RA.step (L := [true, true, true, false, false, false, true, false, true, false, false, false, false, false]) (i := 3) (is := [4, 7]) (by kernel_rfl) ?_) | (refine RA.step (L := [true, true, true, true, false, false, true, false, true, false, false, false, false, false]) (i := 4) (is := [7]) (by kernel_rfl) ?_) | (refine RA.step (L := [true, false, false, false, false, false, true, false, true, false, false, false, false, false]) (i := 1) (is := [4, 7]) (by kernel_rfl) ?_) | (refine RA.step (L := [false, false, false, false, true, false, false, false, true, false, false, false, false, false]) (i := 0) (is := [1, 5, 6]) (by kernel_rfl) ?_) | (refine RA.step (L := [false, false, false, false, true, true, false, false, true, false, false, false, false, false]) (i := 0) (is := [1, 6]) (by kernel_rfl) ?_) | (refine RA.step (L := [false, true, false, false, true, true, false, false, true, false, false, false, false, false]) (i := 0) (is := [6]) (by kernel_rfl) ?_) | (refine RA.step (L := [true, true, false, false, true, true, false, false, true, false, false, false, false, false]) (i := 2) (is := [6]) (by kernel_rfl) ?_) | (refine RA.step (L := [true, true, true, false, true, true, false, false, true, false, false, false, false, false]) (i := 3) (is := [6]) (by kernel_rfl) ?_) | (refine RA.step (L := [true, true, true, true, true, true, false, false, true, false, false, false, false, false]) (i := 6) (is := []) (by kernel_rfl) ?_) | (refine RA.step (L := [true, false, false, false, true, true, false, false, true, false, false, false, false, false]) (i := 1) (is := [6]) (by kernel_rfl) ?_) | (refine RA.step (L := [false, true, false, false, true, false, false, false, true, false, false, false, false, false]) (i := 0) (is := [5, 6]) (by kernel_rfl) ?_) | (refine RA.step (L := [true, true, false, false, true, false, false, false, true, false, false, false, false, false]) (i := 2) (is := [5, 6]) (by kernel_rfl) ?_) | (refine RA.step (L := [true, true, true, false, true, false, false, false, true, false, false, false, false, false]) (i := 3) (is := [5, 6]) (by kernel_rfl) ?_) | (refine RA.step (L := [true, true, true, true, true, false, false, false, true, false, false, false, false, false]) (i := 5) (is := [6]) (by kernel_rfl) ?_) | (refine RA.step (L := [true, false, false, false, true, false, false, false, true, false, false, false, false, false]) (i := 1) (is := [5, 6]) (by kernel_rfl) ?_) | (refine RA.step (L := [false, true, false, false, false, false, false, false, true, false, false, false, false, false]) (i := 0) (is := [4, 6]) (by kernel_rfl) ?_) | (refine RA.step (L := [true, true, false, false, false, false, false, false, true, false, false, false, false, false]) (i := 2) (is := [4, 6]) (by kernel_rfl) ?_) | (refine RA.step (L := [true, true, true, false, false, false, false, false, true, false, false, false, false, false]) (i := 3) (is := [4, 6]) (by kernel_rfl) ?_) | (refine RA.step (L := [true, true, true, true, false, false, false, false, true, false, false, false, false, false]) (i := 4) (is := [6]) (by kernel_rfl) ?_) | (refine RA.step (L := [true, false, false, false, false, false, false, false, true, false, false, false, false, false]) (i := 1) (is := [4, 6]) (by kernel_rfl) ?_) | (refine RA.step (L := [false, false, false, false, false, false, true, false, false, false, false, false, false, false]) (i := 0) (is := [1, 4, 7, 8]) (by kernel_rfl) ?_) | (refine RA.step (L := [false, false, false, false, false, false, true, true, false, false, false, false, false, false]) (i := 0) (is := [1, 4, 8]) (by kernel_rfl) ?_) | (refine RA.step (L := [false, false, false, false, true, false, true, true, false, false, false, false, false, false]) (i := 0) (is := [1, 5, 8]) (by kernel_rfl) ?_) | (refine RA.step (L := [false, false, false, false, true, true, true, true, false, false, false, false, false, false]) (i := 0) (is := [1, 8]) (by kernel_rfl) ?_) | (refine RA.step (L := [false, true, false, false, true, true, true, true, false, false, false, false, false, false]) (i := 0) (is := [8]) (by kernel_rfl) ?_) | (refine RA.step (L := [true, true, false, false, true, true, true, true, false, false, false, false, false, false]) (i := 2) (is := [8]) (by kernel_rfl) ?_) | (refine RA.step (L := [true, true, true, false, true, true, true, true, false, false, false, false, false, false]) (i := 3) (is := [8]) (by kernel_rfl) ?_) | (refine RA.step (L := [true, true, true, true, true, true, true, true, false, false, false, false, false, false]) (i := 8) (is := []) (by kernel_rfl) ?_) | (refine RA.step (L := [true, false, false, false, true, true, true, true, false, false, false, false, false, false]) (i := 1) (is := [8]) (by kernel_rfl) ?_) | (refine RA.step (L := [false, true, false, false, true, false, true, true, false, false, false, false, false, false]) (i := 0) (is := [5, 8]) (by kernel_rfl) ?_) | (refine RA.step (L := [true, true, false, false, true, false, true, true, false, false, false, false, false, false]) (i := 2) (is := [5, 8]) (by kernel_rfl) ?_) | (refine RA.step (L := [true, true, true, false, true, false, true, true, false, false, false, false, false, false]) (i := 3) (is := [5, 8]) (by kernel_rfl) ?_) | (refine RA.step (L := [true, true, true, true, true, false, true, true, false, false, false, false, false, false]) (i := 5) (is := [8]) (by kernel_rfl) ?_) | (refine RA.step (L := [true, false, false, false, true, false, true, true, false, false, false, false, false, false]) (i := 1) (is := [5, 8]) (by kernel_rfl) ?_) | (refine RA.step (L := [false, true, false, false, false, false, true, true, false, false, false, false, false, false]) (i := 0) (is := [4, 8]) (by kernel_rfl) ?_) | (refine RA.step (L := [true, true, false, false, false, false, true, true, false, false, false, false, false, false]) (i := 2) (is := [4, 8]) (by kernel_rfl) ?_) | (refine RA.step (L := [true, true, true, false, false, false, true, true, false, false, false, false, false, false]) (i := 3) (is := [4, 8]) (by kernel_rfl) ?_) | (refine RA.step (L := [true, true, true, true, false, false, true, true, false, false, false, false, false, false]) (i := 4) (is := [8]) (by kernel_rfl) ?_) | (refine RA.step (L := [true, false, false, false, false, false, true, true, false, false, false, false, false, false]) (i := 1) (is := [4, 8]) (by kernel_rfl) ?_) | (refine RA.step (L := [false, false, false, false, true, false, true, false, false, false, false, false, false, false]) (i := 0) (is := [1, 5, 7, 8]) (by kernel_rfl) ?_) | (refine RA.step (L := [false, false, false, false, true, true, true, false, false, false, false, false, false, false]) (i := 0) (is := [1, 7, 8]) (by kernel_rfl) ?_) | (refine RA.step (L := [false, true, false, false, true, true, true, false, false, false, false, false, false, false]) (i := 0) (is := [7, 8]) (by kernel_rfl) ?_) | (refine RA.step (L := [true, true, false, false, true, true, true, false, false, false, false, false, false, false]) (i := 2) (is := [7, 8]) (by kernel_rfl) ?_) | (refine RA.step (L := [true, true, true, false, true, true, true, false, false, false, false, false, false, false]) (i := 3) (is := [7, 8]) (by kernel_rfl) ?_) | (refine RA.step (L := [true, true, true, true, true, true, true, false, false, false, false, false, false, false]) (i := 7) (is := [8]) (by kernel_rfl) ?_) | (refine RA.step (L := [true, false, false, false, true, true, true, false, false, false, false, false, false, false]) (i := 1) (is := [7, 8]) (by kernel_rfl) ?_) | (refine RA.step (L := [false, true, false, false, true, false, true, false, false, false, false, false, false, false]) (i := 0) (is := [5, 7, 8]) (by kernel_rfl) ?_) | (refine RA.step (L := [true, true, false, false, true, false, true, false, false, false, false, false, false, false]) (i := 2) (is := [5, 7, 8]) (by kernel_rfl) ?_) | (refine RA.step (L := [true, true, true, false, true, false, true, false, false, false, false, false, false, false]) (i := 3) (is := [5, 7, 8]) (by kernel_rfl) ?_) | (refine RA.step (L := [true, true, true, true, true, false, true, false, false, false, false, false, false, false]) (i := 5) (is := [7, 8]) (by kernel_rfl) ?_) | (refine RA.step (L := [true, false, false, false, true, false, true, false, false, false, false, false, false, false]) (i := 1) (is := [5, 7, 8]) (by kernel_rfl) ?_) | (refine RA.step (L := [false, true, false, false, false, false, true, false, false, false, false, false, false, false]) (i := 0) (is := [4, 7, 8]) (by kernel_rfl) ?_) | (refine RA.step (L := [true, true, false, false, false, false, true, false, false, false, false, false, false, false]) (i := 2) (is := [4, 7, 8]) (by kernel_rfl) ?_) | (refine RA.step (L := [true, true, true, false, false, false, true, false, false, false, false, false, false, false]) (i := 3) (is := [4, 7, 8]) (by kernel_rfl) ?_) | (refine RA.step (L := [true, true, true, true, false, false, true, false, false, false, false, false, false, false]) (i := 4) (is := [7, 8]) (by kernel_rfl) ?_) | (refine RA.step (L := [true, false, false, false, false, false, true, false, false, false, false, false, false, false]) (i := 1) (is := [4, 7, 8]) (by kernel_rfl) ?_) | (refine RA.step (L := [false, false, false, false, true, false, false, false, false, false, false, false, false, false]) (i := 0) (is := [1, 5, 6, 8]) (by kernel_rfl) ?_) | (refine RA.step (L := [false, false, false, false, true, true, false, false, false, false, false, false, false, false]) (i := 0) (is := [1, 6, 8]) (by kernel_rfl) ?_) | (refine RA.step (L := [false, true, false, false, true, true, false, false, false, false, false, false, false, false]) (i := 0) (is := [6, 8]) (by kernel_rfl) ?_) | (refine RA.step (L := [true, true, false, false, true, true, false, false, false, false, false, false, false, false]) (i := 2) (is := [6, 8]) (by kernel_rfl) ?_) | (refine RA.step (L := [true, true, true, false, true, true, false, false, false, false, false, false, false, false]) (i := 3) (is := [6, 8]) (by kernel_rfl) ?_) | (refine RA.step (L := [true, true, true, true, true, true, false, false, false, false, false, false, false, false]) (i := 6) (is := [8]) (by kernel_rfl) ?_) | (refine RA.step (L := [true, false, false, false, true, true, false, false, false, false, false, false, false, false]) (i := 1) (is := [6, 8]) (by kernel_rfl) ?_) | (refine RA.step (L := [false, true, false, false, true, false, false, false, false, false, false, false, false, false]) (i := 0) (is := [5, 6, 8]) (by kernel_rfl) ?_) | (refine RA.step (L := [true, true, false, false, true, false, false, false, false, false, false, false, false, false]) (i := 2) (is := [5, 6, 8]) (by kernel_rfl) ?_) | (refine RA.step (L := [true, true, true, false, true, false, false, false, false, false, false, false, false, false]) (i := 3) (is := [5, 6, 8]) (by kernel_rfl) ?_) | (refine RA.step (L := [true, true, true, true, true, false, false, false, false, false, false, false, false, false]) (i := 5) (is := [6, 8]) (by kernel_rfl) ?_) | (refine RA.step (L := [true, false, false, false, true, false, false, false, false, false, false, false, false, false]) (i := 1) (is := [5, 6, 8]) (by kernel_rfl) ?_) | (refine RA.step (L := [false, true, false, false, false, false, false, false, false, false, false, false, false, false]) (i := 0) (is := [4, 6, 8]) (by kernel_rfl) ?_) | (refine RA.step (L := [true, true, false, false, false, false, false, false, false, false, false, false, false, false]) (i := 2) (is := [4, 6, 8]) (by kernel_rfl) ?_) | (refine RA.step (L := [true, true, true, false, false, false, false, false, false, false, false, false, false, false]) (i := 3) (is := [4, 6, 8]) (by kernel_rfl) ?_) | (refine RA.step (L := [true, true, true, true, false, false, false, false, false, false, false, false, false, false]) (i := 4) (is := [6, 8]) (by kernel_rfl) ?_) | (refine RA.step (L := [true, false, false, false, false, false, false, false, false, false, false, false, false, false]) (i := 1) (is := [4, 6, 8]) (by kernel_rfl) ?_) | (refine W.condA (ht := fun hb => ?_) (hf := fun hb => ?_) <;> (try simp at hb) <;> (try (exfalso; omega))))
    all_goals first
      | exact FinM.ret ResM.auto
      | (exfalso; apply hcc; exact ⟨hb.1, List.length_pos_iff.2 hb.2⟩)
theorem gcd_step {u v : Int} (hu : 0 ≤ u) (hv : 0 < v) : Int.gcd v (u % v) = Int.gcd u v := by
  obtain ⟨a, rfl⟩ := Int.eq_ofNat_of_zero_le hu
  obtain ⟨b, rfl⟩ := Int.eq_ofNat_of_zero_le (show 0 ≤ v by omega)
  rw [← Int.natCast_emod]
  show Nat.gcd b (a % b) = Nat.gcd a b
  rw [Nat.gcd_comm b, Nat.gcd_comm a, Nat.gcd_rec b a]
def gcdZ (x y : Int) : Int := (Int.gcd x y : Int)
theorem mag_abs (x : Int) : (mag x).natAbs = x.natAbs := by have := sgn_cases x; omega
theorem gcd_mag (x y : Int) : Int.gcd (mag x) (mag y) = Int.gcd x y := by
  show Nat.gcd _ _ = Nat.gcd _ _
  rw [mag_abs, mag_abs]
theorem gcd_lt {x y : Int} (hx : okZ x) (hy : okZ y) : okZ (gcdZ x y) := by
  have hl := hx.lt
  have hl' := hy.lt
  have h0 := pw_pos 60
  refine okZ.of ⟨by unfold gcdZ; omega, ?_⟩
  unfold gcdZ
  by_cases h : x = 0
  · subst h
    rw [Int.gcd_zero_left]; omega
  · have h1 : (Int.gcd x y) ≤ x.natAbs := Nat.le_of_dvd (by omega) (Nat.gcd_dvd_left _ _)
    omega
theorem gcdZ_ok (x y : Int) (hx : okZ x) (hy : okZ y) : ACalls Try.prog 63 [zB x, zB y] (.tup [zB (gcdZ x y), cI 0]) := by
  have h1 := right_yes hx
  have h2 := right_yes hy
  have l1 := num_len hx
  have l2 := num_len hy
  have hg := gcd_lt hx hy
  have hg0 : 0 ≤ gcdZ x y := by unfold gcdZ; omega
  have h3 := (clone_ok (digs (mag x)) (by omega)).data rfl
  have hgm : mag (gcdZ x y) = gcdZ x y := by have := sgn_cases (gcdZ x y); omega
  have h5 := checked_yes (gcdZ x y) (by have := num_len hg; omega)
  rw [show fullZ (gcdZ x y) = gcdZ x y from if_pos hg, show fullE (gcdZ x y) = 0 from if_pos hg] at h5
  refine ACalls.of_M TYok (qs := [zB (gcdZ x y), cI 0]) [.cell 4 29, .tmp 5] 44 Try.func63 (by kernel_rfl) rfl rfl rfl fun G => ?_
  refine W.initA (hw := ?_)
  repeat' (first | ((first | apply U_ | (apply Ug_; exact rfl; exact rfl) | (apply Ugq_; exact rfl; exact rfl) | apply Lex.u | (apply Lex.g; exact rfl; exact rfl) | (apply Lex.gq; exact rfl; exact rfl)); (first | exact QX.B TYok | exact QX.Len TYok | exact QX.Ext TYok | exact QX.Build TYok | exact QCl (h1) | exact QCl (h2) | exact QCd (h3)); exact rfl) | refine SX.Alloc TYok (h := ?_) | refine SX.Store TYok (h := ?_) | refine SX.Box TYok (h := ?_) | refine SC ?_ | refine SG ?_ | (apply W.draw2 (id := 3) [0, 1, 3, 0, 8, 7, 63] [[2], [22], [23], [3], [25], [24], [26]] 7 [(22, 4), (23, 4194304), (24, 8388608), (25, 8), (26, 33554432), (6, 16777216), (7, 67108864)] mixed (by kernel_rfl) rfl rfl) | (refine W.condA (ht := fun hb => ?_) (hf := fun hb => ?_) <;> (try simp at hb) <;> (try (exfalso; omega))))
  apply W.loopP (σ := Int × Int) 44 [4] (fun (u, v) => (0 ≤ u ∧ 0 ≤ v ∧ (Int.gcd u v : Int) = gcdZ x y ∧ u < pw 60 ∧ v < pw 60)) (fun (u, v) => [(6, (True, .pv (slI (digs u)))), (7, (True, .pv (slI (digs v))))]) (fun _ => [(4, ⟨29, 2, [[.int .i64 0, .slnil]]⟩)]) (fun (u, v) => v.toNat) ((mag x, mag y))
  case hp => repeat (first | exact Pick.nil | apply Pick.cons rfl)
  case h0 =>
    refine ⟨⟨mag_nn x, mag_nn y, by unfold gcdZ; rw [gcd_mag], hx, hy⟩, ?_⟩
    exact Le.auto
  case round =>
    rintro ⟨u, v⟩ ⟨g1, g2, g3, g4, g5⟩
    dsimp only at g1 g2 g3 g4 g5 ⊢
    have lu := (digs_len g1).2 g4
    have lv := (digs_len g2).2 g5
    have hv0 : (digs v).length = 0 ↔ v = 0 := by rw [List.length_eq_zero_iff, digs_nil g2]
    apply W.norm (by repeat (first | exact App.nil | apply App.cons))
    by_cases hv : v = 0
    · have hlv : (digs v).length = 0 := hv0.2 hv
      have hug : u = gcdZ x y := by rw [hv, Int.gcd_zero_right] at g3; omega
      have h6 := (clone_ok (digs u) (by omega)).data rfl
      have h7 := signed_ok 1 (digs u) (digs_norm _).dig (by omega) (gcdZ x y) (.inl rfl) (by rw [val_digs g1]; omega)
      repeat' (first | ((first | apply U_ | (apply Ug_; exact rfl; exact rfl) | (apply Ugq_; exact rfl; exact rfl) | apply Lex.u | (apply Lex.g; exact rfl; exact rfl) | (apply Lex.gq; exact rfl; exact rfl)); (first | exact QX.B TYok | exact QX.Len TYok | exact QX.Ext TYok | exact QX.Build TYok | exact QCd (h6) | exact QCd (h7) | exact QCd (h5)); exact rfl) | refine SX.Alloc TYok (h := ?_) | refine SX.Store TYok (h := ?_) | refine SX.Box TYok (h := ?_) | refine SC ?_ | refine SG ?_ | (apply W.draw2 (id := 3) [0, 1, 3, 0, 8, 7, 63] [[2], [22], [23], [3], [25], [24], [26]] 7 [(22, 4), (23, 4194304), (24, 8388608), (25, 8), (26, 33554432), (6, 16777216), (7, 67108864)] mixed (by kernel_rfl) rfl rfl) | (refine W.condA (ht := fun hb => ?_) (hf := fun hb => ?_) <;> (try simp at hb) <;> (try (exfalso; omega))))
      exact FinM.ret ResM.auto
    · have hlv : (digs v).length ≠ 0 := fun e => hv (hv0.1 e)
      have h6 := div_ok (digs u) (digs v) (digs_norm _) (digs_norm _) (by omega) (by omega) (fun e => hlv (by rw [e]; rfl))
      rw [val_digs g1, val_digs g2] at h6
      have r0 := Int.emod_nonneg u hv
      have r1 := Int.emod_lt_of_pos u (show 0 < v by omega)
      have r2 := gcd_step g1 (show 0 < v by omega)
      repeat' (first | ((first | apply U_ | (apply Ug_; exact rfl; exact rfl) | (apply Ugq_; exact rfl; exact rfl) | apply Lex.u | (apply Lex.g; exact rfl; exact rfl) | (apply Lex.gq; exact rfl; exact rfl)); (first | exact QX.B TYok | exact QX.Len TYok | exact QX.Ext TYok | exact QX.Build TYok | exact QCd (h6)); exact rfl) | refine SX.Alloc TYok (h := ?_) | refine SX.Store TYok (h := ?_) | refine SX.Box TYok (h := ?_) | refine SC ?_ | refine SG ?_ | (apply W.draw2 (id := 3) [0, 1, 3, 0, 8, 7, 63] [[2], [22], [23], [3], [25], [24], [26]] 7 [(22, 4), (23, 4194304), (24, 8388608), (25, 8), (26, 33554432), (6, 16777216), (7, 67108864)] mixed (by kernel_rfl) rfl rfl) | (refine W.condA (ht := fun hb => ?_) (hf := fun hb => ?_) <;> (try simp at hb) <;> (try (exfalso; omega))))
      · refine ⟨(v, u % v), ⟨g2, r0, by rw [r2]; exact g3, g5, by omega⟩, ?_, by (try simp only); omega⟩
        exact Le.auto
      · exact absurd (by rw [hb]; rfl) hlv
end Go.Proofs.Ytgpcmgjdkefdjaa
end
