/-
  Pointers that came in as data, checked against nil.
-/
import Derived.Test.YtipghibmgfhmpaaGreatDoorLfOwn
set_option linter.unusedVariables false
set_option linter.unusedSimpArgs false
namespace Lf
open Go
variable {P : Program} {G : Ghost} {n0 : Nat} {env : List (Nat × (Prop × AV))} {bl : List (Nat × Blk)} {p : Prop} {dst : Option Nat} {ty : TypeId} {pos : String} {after : Array Edge} {gd : Option (Nat × Bool)}
theorem Q_nilCheckp {x : Operand} {cs : List Cell} (hx : Ev (St.mk n0 env bl) p x (.pv (.one (.ptr cs)))) : PureOp P G (St.mk n0 env bl) ⟨dst, .nilCheck x, ty, pos, after, gd⟩ p (.pv (.one (.ptr cs))) := PureOp.val fun Φ β a w hs hp => by
  have hr : Rel Φ (a.eval x) (.ptr cs) := hs.ev hx hp
  refine ⟨a.eval x, ?_, hr⟩
  generalize hv : a.eval x = v at hr
  cases hr with
  | ptr b off _ f h1 h2 => simp [execOp, hv]
/-- a call whose result is a slice of the callee's own making, with flat cells: own blocks may be looked at -/
theorem P_callof {A : St} {o : Oper} {f : FuncId} {xs : List Operand} {ats : Array TypeId} {ps : List PV} {E sz : Nat} {rows : List (List Cell)} (ho : o.op = .call { callee := .value (.func f), args := xs.toArray, argTypes := ats })
    (hx : EvL A p xs ps) (hE : Nat.ble mapTag E = false) (hflat : ∀ r ∈ rows, r.all Cell.flat = true) (hc : OCalls P f ps E sz rows) : PureOp P G A o p (.pv (.one (.sl rows))) := fun Φ β a w hs hp => by
  unfold Oper.wp
  rw [call_run ho hc.fn]
  refine Calls.mono (hc.calls (frzAll Φ β A.blks w) w _ hs.frz_fits ⟨by simp [evl_len hx], fun j q hq => ?_⟩) ?_
  · obtain ⟨x, h1, h2⟩ := evl_args hs hp hx j q hq
    exact ⟨a.eval x, by simp [h1], h2⟩
  · rintro e w' ⟨v, Φ', rfl, hv, hle, heq, hfit, hb⟩
    have hfits : Fits Φ w' := fun b c h => by
      obtain ⟨E, fz, hw⟩ := hs.fits b c h
      exact ⟨E, fz, by rw [hb.block b (Array.getElem?_eq_some_iff.1 hw).1]; exact hw⟩
    rcases hv with ⟨rfl, rfl⟩ | ⟨b, cap, rfl, h1, h2, h3⟩
    · exact ⟨_, Φ, rfl, Rel.sl0, Φ.le_refl, fun _ _ => rfl, hfits, hb⟩
    · obtain ⟨cur, g1, g2, g3, g4, g5, g6⟩ := h2.cells hE
      have hnone : Φ b = none := by
        cases h : Φ b with
        | none => rfl
        | some c =>
          obtain ⟨E, fz, hw⟩ := hs.fits b c h
          have := (Array.getElem?_eq_some_iff.1 hw).1
          omega
      refine ⟨_, fun x => if x = b then some cur else Φ x, rfl, ?_, ?_, ?_, ?_, hb⟩
      · refine Rel.sl b 0 rows.length cap sz rows (fun i j => (cur[i * sz + j]?).getD undef) rfl g2 g5 (fun i j r c hi hj => ?_) (fun i j r c hi hj => ?_)
        · obtain ⟨v, k1, k2⟩ := g6 i j r c hi hj
          simp only [if_true, Option.bind_some, Nat.zero_add]
          rw [k1]; rfl
        · obtain ⟨v, k1, k2⟩ := g6 i j r c hi hj
          simp only [k1, Option.getD_some]
          exact k2.flat (List.all_eq_true.1 (hflat r (List.mem_of_getElem? hi)) c (List.mem_of_getElem? hj))
      · intro x c hx
        have : x ≠ b := by intro e; subst e; rw [hnone] at hx; cases hx
        simp only [this, if_false]; exact hx
      · intro x hx
        have : x ≠ b := by omega
        simp only [this, if_false]
      · intro x c hx
        by_cases e : x = b
        · subst e
          simp only [if_true, Option.some.injEq] at hx
          subst hx
          exact ⟨_, _, g1⟩
        · simp only [e, if_false] at hx
          exact hfits x c hx
theorem Q_callof {f : FuncId} {xs : List Operand} {ats : Array TypeId} {ps : List PV} {E sz : Nat} {rows : List (List Cell)} (hc : OCalls P f ps E sz rows) (hE : Nat.ble mapTag E = false) (hflat : ∀ r ∈ rows, r.all Cell.flat = true) (hx : EvL (St.mk n0 env bl) p xs ps) :
    PureOp P G (St.mk n0 env bl) ⟨dst, .call ⟨.value (.func f), xs.toArray, ats⟩, ty, pos, after, gd⟩ p (.pv (.one (.sl rows))) := P_callof rfl hx hE hflat hc

theorem lsub_get : ∀ {xs ys : List Cell}, LSub xs ys → xs.length = ys.length ∧ ∀ (j : Nat) (y : Cell), ys[j]? = some y → ∃ x, xs[j]? = some x ∧ CSub x y
  | [], [], _ => ⟨rfl, fun j y h => by simp at h⟩
  | x :: xs, y :: ys, h => ⟨by simp [(lsub_get h.2).1], fun j z hz => by
      cases j with
      | zero => simp at hz; subst hz; exact ⟨x, rfl, h.1⟩
      | succ j => simpa using (lsub_get h.2).2 j z (by simpa using hz)⟩
def RowsSub (rows rows' : List (List Cell)) : Prop := rows.length = rows'.length ∧ ∀ (i : Nat) (r' : List Cell), rows'[i]? = some r' → ∃ r, rows[i]? = some r ∧ LSub r r'
theorem RowsSub.replicate {k : Nat} {r r' : List Cell} (h : LSub r r') : RowsSub (List.replicate k r) (List.replicate k r') := by
  refine ⟨by simp, fun i x hx => ?_⟩
  obtain ⟨hi, rfl⟩ := List.getElem?_eq_some_iff.1 hx
  exact ⟨r, by rw [List.getElem?_eq_getElem (by simpa using hi)]; simp, by simpa using h⟩
/-- a block's rows, read more weakly (an empty slice instead of nil) -/
theorem Le.rowSub {A : St} {n E sz : Nat} {rows rows' : List (List Cell)} (h : lk A.blks n = some ⟨E, sz, rows⟩) (hE : Nat.ble mapTag E = false) (hr : RowsSub rows rows') : Le A { A with blks := (n, ⟨E, sz, rows'⟩) :: A.blks } := fun G Φ β a w hs => by
  have hob : (⟨E, sz, rows⟩ : Blk).ob = false := hE
  refine ⟨Φ, β, Φ.le_refl, hs.kept, hs.fits, hs.old, hs.siz, hs.dfr, fun s q v hv => ⟨fun hq => ?_, (hs.env s q v hv).2⟩, fun k D b cap h1 h2 => ?_, fun k D h1 h2 => ?_, fun k k' D D' b c1 c2 h1 h2 h3 h4 => ?_⟩
  · exact AVRel.turn (B := ⟨E, sz, rows⟩) h hob hr.1.symm ((hs.env s q v hv).1 hq)
  · simp only at h1
    rw [lk_cons] at h1
    split at h1
    · rename_i e; subst e
      obtain rfl := Option.some.inj h1
      obtain ⟨g1, g2, g3⟩ := hs.blk _ _ b cap h h2
      refine ⟨?_, g2, g3⟩
      obtain ⟨cur, c1, c2, c3, c4, c5, c6⟩ := g1.cells hob
      refine .inl ⟨hob, cur, c1, by simp only; rw [← hr.1]; exact c2, c3, c4, fun r hr' => ?_, fun i j r x hi hj => ?_⟩
      · obtain ⟨i, hi, e⟩ := List.getElem_of_mem hr'
        obtain ⟨r0, q1, q2⟩ := hr.2 i r (by rw [List.getElem?_eq_getElem hi, e])
        rw [← (lsub_get q2).1]; exact c5 r0 (List.mem_of_getElem? q1)
      · obtain ⟨r0, q1, q2⟩ := hr.2 i r hi
        obtain ⟨x0, q3, q4⟩ := (lsub_get q2).2 j x hj
        obtain ⟨v, q5, q6⟩ := c6 i j r0 x0 q1 q3
        exact ⟨v, q5, q6.sub q4⟩
    · exact hs.blk k D b cap h1 h2
  · simp only at h1
    rw [lk_cons] at h1
    split at h1
    · rename_i e; subst e
      obtain rfl := Option.some.inj h1
      have := hs.vir _ _ h h2
      simp only at this ⊢
      have hl := hr.1
      rw [this] at hl
      exact List.length_eq_zero_iff.1 hl.symm
    · exact hs.vir k D h1 h2
  · have key : ∀ k D, lk ((n, (⟨E, sz, rows'⟩ : Blk)) :: A.blks) k = some D → ∃ D', lk A.blks k = some D' := fun k D hk => by
      rw [lk_cons] at hk
      split at hk
      · rename_i e; subst e; exact ⟨_, h⟩
      · exact ⟨D, hk⟩
    obtain ⟨_, k1⟩ := key k D h1
    obtain ⟨_, k2⟩ := key k' D' h2
    exact hs.inj k k' _ _ b c1 c2 k1 k2 h3 h4

/-! ### one block stands still from here on, the others stay own -/
def frzV1 (n : Nat) (bl : List (Nat × Blk)) (v : AV) : AV := bif v.ment n then (match v with | .itr _ _ => .top | .mp _ => .top | v => frzV bl v) else v
def frz1 (n : Nat) (bl : List (Nat × Blk)) : List (Nat × (Prop × AV)) → List (Nat × (Prop × AV))
  | [] => []
  | (t, (q, v)) :: r => (t, (q, frzV1 n bl v)) :: frz1 n bl r
theorem lk_frz1 (n : Nat) (bl : List (Nat × Blk)) : ∀ (env : List (Nat × (Prop × AV))) (t : Nat) (q : Prop) (v : AV), lk (frz1 n bl env) t = some (q, v) → ∃ v', lk env t = some (q, v') ∧ v = frzV1 n bl v'
  | [], t, q, v, h => by simp [frz1, lk] at h
  | (s, (q0, v0)) :: r, t, q, v, h => by
    rw [frz1, lk_cons] at h
    rw [lk_cons]
    split at h
    · rename_i e
      simp only [Option.some.injEq, Prod.mk.injEq] at h
      rw [if_pos e]
      exact ⟨v0, by rw [h.1], h.2.symm⟩
    · rename_i e
      rw [if_neg e]
      exact lk_frz1 n bl r t q v h
theorem AVRel.drop1 {A : St} {Φ Φ' : Frz} {β : Own} {m : Nat} {v : Value} {x : AV} (h : AVRel Φ β A.blks v x) (hle : Φ.le Φ') (hm : x.ment m = false) : AVRel Φ' (fun k => if k = m then none else β k) (dropB m A.blks) v x := by
  have hl : ∀ k, k ≠ m → lk (dropB m A.blks) k = lk A.blks k := fun k hk => by rw [lk_dropB, if_neg hk]
  have hb : ∀ k, k ≠ m → (fun k => if k = m then none else β k) k = β k := fun k hk => by simp [hk]
  cases x with
  | pv p => exact PRel.mono hle h
  | tup l => exact AVRel.mono hle h
  | top => trivial
  | addr n i off =>
    have e : n ≠ m := fun e => by subst e; simp [AV.ment] at hm
    obtain ⟨b', cap', B', g1, g2, g3⟩ := h
    exact ⟨b', cap', B', by rw [hb n e]; exact g1, by rw [hl n e]; exact g2, g3⟩
  | slc n =>
    have e : n ≠ m := fun e => by subst e; simp [AV.ment] at hm
    obtain ⟨B', g2, g3⟩ := h
    exact ⟨B', by rw [hl n e]; exact g2, by rw [hb n e]; exact g3⟩
  | pin n b c f =>
    have e : n ≠ m := fun e => by subst e; simp [AV.ment] at hm
    obtain ⟨B', g1, g2, g3⟩ := h
    exact ⟨B', by rw [hb n e]; exact g1, by rw [hl n e]; exact g2, g3⟩
  | mp n =>
    have e : n ≠ m := fun e => by subst e; simp [AV.ment] at hm
    obtain ⟨b', cap', B', g1, g2, g3⟩ := h
    exact ⟨b', cap', B', by rw [hb n e]; exact g1, by rw [hl n e]; exact g2, g3⟩
  | itr d n =>
    have e : n ≠ m := fun e => by subst e; simp [AV.ment] at hm
    have e' : d ≠ m := fun e => by subst e; simp [AV.ment] at hm
    obtain ⟨b', cap', B', M, c, g1, g2, g3, g4, g5, g6⟩ := h
    exact ⟨b', cap', B', M, c, by rw [hb d e']; exact g1, by rw [hl d e']; exact g2, g3, by rw [hb n e]; exact g4, by rw [hl n e]; exact g5, g6⟩
theorem Le.freeze1 {A : St} {m : Nat} {B : Blk} (hm : lk A.blks m = some B) : Le A { A with env := frz1 m A.blks A.env, blks := dropB m A.blks } := fun G Φ β a w hs => by
  have hs1 : Sat G Φ β ⟨A.n, [], [(m, B)]⟩ a w := by
    have key : ∀ {k C}, lk [(m, B)] k = some C → k = m ∧ C = B := fun {k C} h => by
      rw [lk_cons] at h
      split at h
      · rename_i e; exact ⟨e.symm, (Option.some.inj h).symm⟩
      · simp [lk] at h
    refine ⟨hs.kept, hs.fits, hs.old, hs.siz, hs.dfr, fun t q v h => by simp [lk] at h, fun n C b cap h1 h2 => ?_, fun n C h1 h2 => ?_, fun n n' C C' b c c' h1 h2 h3 h4 => ?_⟩
    · obtain ⟨rfl, rfl⟩ := key h1
      exact hs.blk _ _ b cap hm h2
    · obtain ⟨rfl, rfl⟩ := key h1
      exact hs.vir _ _ hm h2
    · rw [(key h1).1, (key h2).1]
  have hno : ∀ k C b cap, lk (dropB m A.blks) k = some C → β k = some (b, cap) → ¬ ownedBy β [(m, B)] b := fun k C b cap h1 h2 ⟨n, D, c', k1, k2⟩ => by
    rw [lk_dropB] at h1; split at h1
    · cases h1
    · rename_i e
      rw [lk_cons] at k1
      split at k1
      · rename_i e'; subst e'
        exact e (hs.inj k m C B b cap c' h1 hm h2 k2)
      · simp [lk] at k1
  refine ⟨frzAll Φ β [(m, B)] w, fun k => if k = m then none else β k, hs1.frz_le, hs.kept, hs1.frz_fits, fun b hk => ?_, hs.siz, hs.dfr, fun t q v h => ?_, fun n C b cap h1 h2 => ?_, fun n C h1 h2 => ?_, fun n n' C C' b c c' h1 h2 h3 h4 => ?_⟩
  · have hn : ¬ ownedBy β [(m, B)] b := fun ⟨n, C, cap, h1, h2⟩ => (hs1.blk n C b cap h1 h2).2.1 hk
    unfold frzAll
    rw [if_neg hn]
    exact hs.old b hk
  · obtain ⟨v', h1, rfl⟩ := lk_frz1 _ _ _ _ _ _ h
    refine ⟨fun hq => ?_, (hs.env t q v' h1).2⟩
    have h3 := (hs.env t q v' h1).1 hq
    unfold frzV1
    cases hmt : v'.ment m with
    | false => exact h3.drop1 hs1.frz_le hmt
    | true =>
      simp only [cond_true]
      cases v' with
      | mp n => trivial
      | itr d n => trivial
      | tup l => simp [AV.ment] at hmt
      | pv p => simp [AV.ment] at hmt
      | top => trivial
      | pin n b c f => trivial
      | addr n i off =>
        have e : n = m := Nat.eq_of_beq_eq_true hmt
        subst e
        obtain ⟨b', cap', B', g1, g2, g3⟩ := h3
        rw [hm] at g2; obtain rfl := Option.some.inj g2
        have h5 : AVRel Φ β [(n, B)] (a.tmps.getD t undef) (.addr n i off) := ⟨b', cap', B, g1, by rw [lk_cons, if_pos rfl], g3⟩
        have e : toPV A.blks (.addr n i off) = toPV [(n, B)] (.addr n i off) := by simp only [toPV, hm, lk_cons, if_true]
        simp only [frzV, e]
        cases hq' : toPV [(n, B)] (.addr n i off) with
        | none => trivial
        | some p => exact hs1.toPV h5 hq'
      | slc n =>
        have e : n = m := Nat.eq_of_beq_eq_true hmt
        subst e
        obtain ⟨B', g2, g3⟩ := h3
        rw [hm] at g2; obtain rfl := Option.some.inj g2
        have h5 : AVRel Φ β [(n, B)] (a.tmps.getD t undef) (.slc n) := ⟨B, by rw [lk_cons, if_pos rfl], g3⟩
        have e : toPV A.blks (.slc n) = toPV [(n, B)] (.slc n) := by simp only [toPV, hm, lk_cons, if_true]
        simp only [frzV, e]
        cases hq' : toPV [(n, B)] (.slc n) with
        | none => trivial
        | some p => exact hs1.toPV h5 hq'
  · have h1' := h1
    simp only [lk_dropB] at h1
    split at h1
    · cases h1
    · rename_i e
      simp only [e, if_false] at h2
      obtain ⟨k1, k2, k3⟩ := hs.blk n C b cap h1 h2
      refine ⟨k1.keep hs1.frz_le rfl, k2, ?_⟩
      unfold frzAll
      rw [if_neg (hno n C b cap h1' h2)]
      exact k3
  · simp only [lk_dropB] at h1
    split at h1
    · cases h1
    · rename_i e
      simp only [e, if_false] at h2
      exact hs.vir n C h1 h2
  · simp only [lk_dropB] at h1 h2
    split at h1
    · cases h1
    · split at h2
      · cases h2
      · rename_i e e'
        simp only [e, if_false] at h3
        simp only [e', if_false] at h4
        exact hs.inj n n' C C' b c c' h1 h2 h3 h4
end Lf
