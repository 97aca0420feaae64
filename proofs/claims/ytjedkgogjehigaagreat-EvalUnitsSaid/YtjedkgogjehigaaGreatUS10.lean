/-
  Part 10 of what the proof rests on.
-/
import Derived.Test.YtjedkgogjehigaaGreatUS04
import Derived.Test.YtjedkgogjehigaaGreatUS09
import Derived.Lib.LaidTab
import Derived.Test.YtjedkgogjehigaaGreatUS03
import Derived.Test.YtjedkgogjehigaaGreatUS08
import Derived.Test.YtjedkgogjehigaaGreatUS07
import Derived.Test.YtjedkgogjehigaaGreatUS05
import Derived.Defers
import Derived.Recover
section
set_option linter.unusedVariables false
set_option linter.unusedSimpArgs false
set_option linter.unusedSectionVars false
namespace Lf
open Go Go.RowKit
section
variable {P : Program} {G : Ghost} {A : St} {Φ : Frz} {β : Own} {a : Act} {w w' : World} {T : TT}
/-- THE CONTRACT OF A FUNCTION that finds a map of its caller's at a place which its arguments name: the map's entries before the call, and what is known of them behind it. -/
structure PCalls (P : Program) (f : FuncId) (z : Nat) (args : Nat → List PV) (r : AV) (I : List (List Cell) → Prop) : Prop where
  fn : FnOK P f
  calls : ∀ (Φ : Frz) (w : World) (vs : Array Value) (b cap : Nat) (rows : List (List Cell)), I rows → Fits Φ w → ArgsRel Φ vs (args b) → Φ b = none → BlkRel Φ w b cap ⟨mapTag, z, rows⟩ →
    Calls P f vs w (fun e w' => ∃ v Φ' rows', e = .returned v ∧ AVRel Φ' (fun _ => none) [] v r ∧ Φ.le Φ' ∧ (∀ c, c < w.heap.size → Φ' c = Φ c) ∧ Fits Φ' w' ∧ I rows' ∧ BlkRel Φ' w' b cap ⟨mapTag, z, rows'⟩ ∧ BelowX b w.heap.size w w')
def St.initP (n z b : Nat) (rows : List (List Cell)) (args : List PV) : St := { n := n, env := initEnv args 0 ++ [(1000000, (True, .mpn 1000000 b))], blks := [(1000000, ⟨mapTag, z, rows⟩)] }
def FinP (T : TT) (z b : Nat) (I : List (List Cell) → Prop) (rs : List RV) (qs : List PV) (e : Exit) (A : St) : Prop :=
  (e = .normal ∨ e = .ret) ∧ ∃ m rows', lk A.blks m = some ⟨mapTag, z, rows'⟩ ∧ I rows' ∧ lk A.env 1000000 = some (True, .mpn m b) ∧ ResM T { A with env := fgt m A.env, blks := dropB m A.blks } rs qs
theorem FinP.ret {z b : Nat} {I : List (List Cell) → Prop} {rs : List RV} {qs : List PV} {rows' : List (List Cell)} (m : Nat) (h1 : lk A.blks m = some ⟨mapTag, z, rows'⟩) (h2 : I rows') (h3 : lk A.env 1000000 = some (True, .mpn m b)) (h : ResM T { A with env := fgt m A.env, blks := dropB m A.blks } rs qs) : FinP T z b I rs qs .ret A := ⟨.inr rfl, m, rows', h1, h2, h3, h⟩
theorem lk_appP {α : Type _} (l r : List (Nat × α)) (t : Nat) : lk (l ++ r) t = (lk l t).orElse fun _ => lk r t := by
  induction l with
  | nil => rfl
  | cons p l ih =>
    obtain ⟨k, x⟩ := p
    rw [List.cons_append, lk_cons, lk_cons, ih]
    split <;> rfl
/-- all but one block -/
theorem Sat.dropM {m : Nat} {B : Blk} (hm : lk A.blks m = some B) (hs : Sat G Φ β A a w) : Sat G Φ β { A with env := fgt m A.env, blks := dropB m A.blks } a w := by
  refine ⟨hs.kept, hs.fits, hs.old, hs.siz, hs.dfr, fun t q v h => ?_, fun n C b cap h1 h2 => ?_, fun n C h1 h2 => ?_, fun n n' C C' b c c' h1 h2 h3 h4 => ?_⟩
  · obtain ⟨v', g1, rfl⟩ := lk_fgt _ _ _ _ _ h
    refine ⟨fun hq => ?_, (hs.env t q v' g1).2⟩
    cases hmt : v'.ment m with
    | true => trivial
    | false => exact ((hs.env t q v' g1).1 hq).drop hmt
  · simp only [lk_dropB] at h1; split at h1
    · cases h1
    · exact hs.blk n C b cap h1 h2
  · simp only [lk_dropB] at h1; split at h1
    · cases h1
    · exact hs.vir n C h1 h2
  · simp only [lk_dropB] at h1 h2; split at h1
    · cases h1
    · split at h2
      · cases h2
      · exact hs.inj n n' C C' b c c' h1 h2 h3 h4
theorem PCalls.of_M (hT : TOK P T) {f : FuncId} {fn : Func} {c : Code} {z : Nat} {args : Nat → List PV} {qs : List PV} {I : List (List Cell) → Prop} (rs : List RV) (n : Nat) (hf : P.funcs[f]? = some fn) (hn : (fn.name == "runtime.NumGoroutine") = false) (hb : fn.body = some c)
    (hr : fn.results = (rs.map RV.var).toArray) (hnt : fn.ntmps = n) (h : ∀ G b rows, I rows → W P G c (FinP T z b I rs qs) (St.initP n z b rows (args b))) : PCalls P f z args (ofRes qs) I where
  fn := ⟨fn, hf, hn, by rw [hb]; rfl⟩
  calls := fun Φ w vs b cap rows hI0 hfit harg hΦ hblk => by
    subst hnt
    have hlt := hblk.lt
    have h0 := sat_init (G := { w0 := w, K := fun c => c < w.heap.size, F0 := Φ, lt := fun c h => h }) (f := f) (fn := fn) rfl hfit harg
    have hs0 : Sat { w0 := w, K := fun c => c < w.heap.size ∧ c ≠ b, F0 := Φ, lt := fun c h => h.1 } Φ (fun n => if n = 1000000 then some (b, cap) else none) (St.initP fn.ntmps z b rows (args b)) { tmps := vs ++ Array.replicate (fn.ntmps - vs.size) undef, defers := [] } w := by
      refine ⟨⟨rfl, rfl, rfl, Nat.le_refl _, fun b _ => rfl⟩, hfit, fun b _ => rfl, h0.siz, rfl, fun t q v hl => ?_, fun n B b' cap' h1 h2 => ?_, fun n B h1 h2 => ?_, fun n n' B B' b' c1 c2 h1 h2 h3 h4 => ?_⟩
      · simp only [St.initP] at hl
        rw [lk_appP] at hl
        cases h5 : lk (initEnv (args b) 0) t with
        | some y =>
          rw [h5] at hl
          obtain rfl := Option.some.inj hl
          obtain ⟨_, rfl, p, hp, rfl⟩ := lk_init _ _ _ _ _ h5
          exact h0.env t True (.pv p) h5
        | none =>
          rw [h5] at hl
          have hl : lk [(1000000, ((True : Prop), AV.mpn 1000000 b))] t = some (q, v) := hl
          rw [lk_cons] at hl
          split at hl
          · simp only [Option.some.injEq, Prod.mk.injEq] at hl
            obtain ⟨rfl, rfl⟩ := hl
            exact ⟨fun _ => ⟨b, cap, ⟨mapTag, z, rows⟩, by simp, rfl, rfl, rfl⟩, fun hq => (hq trivial).elim⟩
          · simp [lk] at hl
      · simp only [St.initP] at h1
        rw [lk_cons] at h1
        split at h1
        · rename_i e; subst e
          obtain rfl := Option.some.inj h1
          simp at h2
          obtain ⟨rfl, rfl⟩ := h2
          exact ⟨hblk, fun h => h.2 rfl, hΦ⟩
        · simp [lk] at h1
      · simp only [St.initP] at h1
        rw [lk_cons] at h1
        split at h1
        · rename_i e; subst e; simp at h2
        · simp [lk] at h1
      · split at h3
        · rename_i e; split at h4
          · rename_i e'; rw [e, e']
          · cases h4
        · cases h3
    refine calls_of_wp hf hb (wp_mono (h _ b rows hI0 Φ _ _ w hs0) fun e a' w' ⟨A', Φ1, β1, ⟨he, m, rows', hm, hI, hg, hres⟩, hs1, hle1⟩ => ?_)
    obtain ⟨b1, cap1, B1, k1, k2, k3, rfl⟩ := (hs1.env 1000000 True _ hg).1 trivial
    rw [hm] at k2
    obtain rfl := Option.some.inj k2
    have hbl := hs1.blk m _ b1 cap1 hm k1
    have hs := hs1.dropM hm
    have hno : ¬ ownedBy β1 (dropB m A'.blks) b1 := fun ⟨n, C, c', g1, g2⟩ => by
      rw [lk_dropB] at g1; split at g1
      · cases g1
      · rename_i e; exact e (hs1.inj n m C _ b1 c' cap1 g1 hm g2 k1)
    have hrest : Φ.le (frzAll Φ1 β1 (dropB m A'.blks) w') ∧ (∀ c, c < w.heap.size → frzAll Φ1 β1 (dropB m A'.blks) w' c = Φ c) ∧ Fits (frzAll Φ1 β1 (dropB m A'.blks) w') w' ∧ I rows' ∧ BlkRel (frzAll Φ1 β1 (dropB m A'.blks) w') w' b1 cap ⟨mapTag, z, rows'⟩ ∧ BelowX b1 w.heap.size w w' := by
      refine ⟨Frz.le_trans hle1 hs.frz_le, fun c hc => ?_, hs.frz_fits, hI, ?_, ⟨hs1.kept.os, hs1.kept.tape, hs1.kept.output, hs1.kept.size, fun c h1 h2 => hs1.kept.block c ⟨h1, h2⟩⟩⟩
      · by_cases e : c = b1
        · subst e
          unfold frzAll
          rw [if_neg hno, hΦ]; exact hbl.2.2
        · have hno' : ¬ ownedBy β1 (dropB m A'.blks) c := fun ⟨n, B, cap', h1, h2⟩ => (hs.blk n B c cap' h1 h2).2.1 ⟨hc, e⟩
          unfold frzAll
          rw [if_neg hno']
          exact hs1.old c ⟨hc, e⟩
      · rcases (hbl.1.keep hs.frz_le rfl).obj map_ob with ⟨_, es, g1, g2⟩ | ⟨g, _⟩
        · exact .inr ⟨map_ob, .inl ⟨rfl, es, g1, g2⟩⟩
        · exact absurd g tags
    have hv : a'.defers = [] ∧ ∃ v, (results fn a'.tmps).run P w' = .ok v w' ∧ (∃ v1 Φ'' rows'', Ending.returned v = .returned v1 ∧ AVRel Φ'' (fun _ => none) [] v1 (ofRes qs) ∧ Φ.le Φ'' ∧ (∀ c, c < w.heap.size → Φ'' c = Φ c) ∧ Fits Φ'' w' ∧ I rows'' ∧ BlkRel Φ'' w' b1 cap ⟨mapTag, z, rows''⟩ ∧ BelowX b1 w.heap.size w w') := by
      obtain ⟨vl, e1, e2, e3⟩ := resm_run hT hs (f := fun
        | .tmp t => pure (a'.tmps.getD t undef)
        | .cell t ty => do loadVar ty (← asAddr (a'.tmps.getD t undef))) (fun t => rfl) (fun t ty => rfl) hres
      refine ⟨hs.dfr, ?_⟩
      match vl, qs, e1, e2, e3 with
      | [], [], e1, _, e3 =>
        refine ⟨.tuple #[], ?_, _, _, _, rfl, ⟨#[], rfl, rfl, fun j p h => by simp at h⟩, hrest⟩
        unfold results; rw [hr, List.mapM_toArray, bind_map_left, Sem.run_bind]; erw [e1]; rfl
      | [v], [q], e1, _, e3 =>
        obtain ⟨v', h1, h2⟩ := e3 0 q rfl
        simp at h1; subst h1
        refine ⟨v, ?_, _, _, _, rfl, h2, hrest⟩
        unfold results; rw [hr, List.mapM_toArray, bind_map_left, Sem.run_bind]; erw [e1]; rfl
      | v :: v2 :: vs', q :: q2 :: qs', e1, e2, e3 =>
        refine ⟨.tuple (v :: v2 :: vs').toArray, ?_, _, _, _, rfl, ⟨_, rfl, by simpa using e2, fun j p hp => ?_⟩, hrest⟩
        · unfold results; rw [hr, List.mapM_toArray, bind_map_left, Sem.run_bind]; erw [e1]; rfl
        · obtain ⟨v', h1, h2⟩ := e3 j p hp
          exact ⟨v', by simpa using h1, h2⟩
    rcases he with rfl | rfl
    · exact hv
    · exact hv
/-- no slot holds an iterator over the map: what a call has put into it -/
theorem AVRel.turnM {n b cap z : Nat} {rows rows' : List (List Cell)} {v : Value} {x : AV} (h : AVRel Φ β A.blks v x) (h1 : lk A.blks n = some ⟨mapTag, z, rows⟩) (hni : x.isItr n = false) : AVRel Φ β ((n, (⟨mapTag, z, rows'⟩ : Blk)) :: A.blks) v x := by
  have hl : ∀ m, m ≠ n → lk ((n, (⟨mapTag, z, rows'⟩ : Blk)) :: A.blks) m = lk A.blks m := fun m hm => by rw [lk_cons, if_neg (Ne.symm hm)]
  have hl0 : lk ((n, (⟨mapTag, z, rows'⟩ : Blk)) :: A.blks) n = some ⟨mapTag, z, rows'⟩ := by rw [lk_cons, if_pos rfl]
  have hno : ∀ {m : Nat} {C : Blk}, lk A.blks m = some C → C.ob = false → m ≠ n := fun {m C} k1 k2 e => by
    subst e; rw [h1] at k1; obtain rfl := Option.some.inj k1; rw [map_ob] at k2; cases k2
  cases x with
  | pv p => exact h
  | tup l => exact h
  | top => trivial
  | addr m i off =>
    obtain ⟨b', cap', C, k1, k2, k3, k4⟩ := h
    exact ⟨b', cap', C, k1, by rw [hl m (hno k2 k3)]; exact k2, k3, k4⟩
  | slc m =>
    obtain ⟨C, k2, k3, k4⟩ := h
    exact ⟨C, by rw [hl m (hno k2 k3)]; exact k2, k3, k4⟩
  | pin m b0 c0 f =>
    obtain ⟨C, k1, k2, k3, k4⟩ := h
    exact ⟨C, k1, by rw [hl m (hno k2 k3)]; exact k2, k3, k4⟩
  | mp m =>
    obtain ⟨b', cap', C, k1, k2, k3, k4⟩ := h
    by_cases e : m = n
    · subst e
      exact ⟨b', cap', _, k1, hl0, rfl, k4⟩
    · exact ⟨b', cap', C, k1, by rw [hl m e]; exact k2, k3, k4⟩
  | mpn m bb =>
    obtain ⟨b', cap', C, k1, k2, k3, k4⟩ := h
    by_cases e : m = n
    · subst e
      exact ⟨b', cap', _, k1, hl0, rfl, k4⟩
    · exact ⟨b', cap', C, k1, by rw [hl m e]; exact k2, k3, k4⟩
  | itr d m =>
    obtain ⟨b', cap', C, M, c, k1, k2, k3, k4, k5, k6⟩ := h
    have e : m ≠ n := fun e => by subst e; simp [AV.isItr] at hni
    have e' : d ≠ n := fun e => by
      subst e; rw [h1] at k2; obtain rfl := Option.some.inj k2; exact absurd k3 tags
    exact ⟨b', cap', C, M, c, k1, by rw [hl d e']; exact k2, k3, k4, by rw [hl m e]; exact k5, k6⟩
theorem Sat.lendM {Φ' : Frz} (hs : Sat G Φ β A a w) {n b cap z : Nat} {rows rows' : List (List Cell)} (h1 : lk A.blks n = some ⟨mapTag, z, rows⟩) (h2 : β n = some (b, cap)) (hni : noItr n A.env = true)
    (hle : Φ.le Φ') (heq : ∀ c, c < w.heap.size → Φ' c = Φ c) (hf : Fits Φ' w') (hb : BlkRel Φ' w' b cap ⟨mapTag, z, rows'⟩) (hx : BelowX b w.heap.size w w') : Sat G Φ' β { A with blks := (n, ⟨mapTag, z, rows'⟩) :: A.blks } a w' := by
  obtain ⟨g1, g2, g3⟩ := hs.blk n _ b cap h1 h2
  have hne : ∀ c, G.K c → c ≠ b := fun c hk e => g2 (e ▸ hk)
  refine ⟨⟨hx.os.trans hs.kept.os, hx.tape.trans hs.kept.tape, hx.output.trans hs.kept.output, Nat.le_trans hs.kept.size hx.size, fun c hk => (hx.block c (Nat.lt_of_lt_of_le (G.lt c hk) hs.kept.size) (hne c hk)).trans (hs.kept.block c hk)⟩, hf,
    fun c hk => (heq c (Nat.lt_of_lt_of_le (G.lt c hk) hs.kept.size)).trans (hs.old c hk), hs.siz, hs.dfr, fun t q v h => ⟨fun hq => (((hs.env t q v h).1 hq).mono hle).turnM (b := b) (cap := cap) h1 ?_, (hs.env t q v h).2⟩, fun m C b' cap' k1 k2 => ?_, fun m C k1 k2 => ?_, fun m m' C C' b' c c' k1 k2 k3 k4 => ?_⟩
  · cases hv : v.isItr n with
    | false => rfl
    | true =>
      cases v with
      | itr d m =>
        have e : m = n := Nat.eq_of_beq_eq_true hv
        subst e
        exact (noItr_at hni t q d h).elim
      | _ => cases hv
  · rw [lk_cons] at k1
    split at k1
    · rename_i e; subst e
      obtain rfl := Option.some.inj k1
      rw [h2] at k2
      simp only [Option.some.injEq, Prod.mk.injEq] at k2
      obtain ⟨rfl, rfl⟩ := k2
      exact ⟨hb, g2, by rw [heq b g1.lt]; exact g3⟩
    · rename_i e
      obtain ⟨q1, q2, q3⟩ := hs.blk m C b' cap' k1 k2
      have hbb : b' ≠ b := fun e' => by subst e'; exact e (hs.inj n m _ C b' cap cap' h1 k1 h2 k2)
      exact ⟨q1.keep hle (hx.block b' q1.lt hbb), q2, by rw [heq b' q1.lt]; exact q3⟩
  · rw [lk_cons] at k1
    split at k1
    · rename_i e; subst e; rw [h2] at k2; cases k2
    · exact hs.vir m C k1 k2
  · have hk : ∀ m C, lk ((n, (⟨mapTag, z, rows'⟩ : Blk)) :: A.blks) m = some C → ∃ C0, lk A.blks m = some C0 := fun m C h => by
      rw [lk_cons] at h
      split at h
      · rename_i e; subst e; exact ⟨_, h1⟩
      · exact ⟨C, h⟩
    obtain ⟨C0, e0⟩ := hk m C k1
    obtain ⟨C1, e1⟩ := hk m' C' k2
    exact hs.inj m m' C0 C1 b' c c' e0 e1 k3 k4
theorem E_callp {o : Oper} {f : FuncId} {xs : List Operand} {ats : Array TypeId} {ps : Nat → List PV} {z d m b g : Nat} {rows : List (List Cell)} {r : AV} {I : List (List Cell) → Prop} (ho : o.op = .call { callee := .value (.func f), args := xs.toArray, argTypes := ats }) (hd : o.dst = some d) (hn : d < A.n)
    (hg : lk A.env g = some (True, .mpn m b)) (hl : lk A.blks m = some ⟨mapTag, z, rows⟩) (hx : EvD A True xs (ps b)) (hni : noItr m A.env = true) (hI : I rows) (hc : PCalls P f z ps r I) :
    EffF P G A o (fun s : { rows' : List (List Cell) // I rows' } => { A with blks := (m, ⟨mapTag, z, s.1⟩) :: A.blks }.set d True r) := fun Φ β a w hs => by
  unfold Oper.wp
  rw [call_run ho hc.fn]
  obtain ⟨b1, cap, B, k1, k2, k3, rfl⟩ := (hs.env g True _ hg).1 trivial
  rw [hl] at k2
  obtain rfl := Option.some.inj k2
  obtain ⟨g1, g2, g3⟩ := hs.blk m _ b1 cap hl k1
  refine Calls.mono (hc.calls Φ w _ b1 cap rows hI hs.fits ⟨by simp [evd_len hx], fun j q hq => ?_⟩ g3 g1) ?_
  · obtain ⟨x, h1, h2⟩ := evd_args hs trivial hx j q hq
    exact ⟨a.eval x, by simp [h1], h2⟩
  · rintro e w' ⟨v, Φ', rows', rfl, hv, hle, heq, hfit, hI, hbl, hb⟩
    have hs' := hs.lendM (rows' := rows') hl k1 hni hle heq hfit hbl hb
    show ∃ s Φ'' β', Sat G Φ'' β' _ (a.put o.dst v) w' ∧ Φ.le Φ''
    rw [hd]
    exact ⟨⟨rows', hI⟩, Φ', β, hs'.put hn hv.ret, hle⟩
/-- a map's place, as1 data -/
theorem rel_mpa {b : Nat} {v : Value} (h : Rel Φ v (.mpa b)) : v = .map (some b) := by cases h; rfl
end
section
variable {P : Program} {G : Ghost} {ops : Array Oper} {rest : List Oper} {Q : St → Prop} {n0 : Nat} {env : List (Nat × (Prop × AV))} {bl : List (Nat × Blk)} {p : Prop} {dst : Option Nat} {ty : TypeId} {pos : String} {after : Array Edge} {gd : Option (Nat × Bool)}
theorem S_callp {f : FuncId} {xs : List Operand} {ats : Array TypeId} {ps : Nat → List PV} {z d m b g : Nat} {rows : List (List Cell)} {r : AV} {I : List (List Cell) → Prop} (hc : PCalls P f z ps r I)
    (hg : lk env g = some (True, .mpn m b)) (hl : lk bl m = some ⟨mapTag, z, rows⟩) (hn : Nat.blt d n0 = true) (hni : noItr m env = true) (hI : I rows) (hx : EvD (St.mk n0 env bl) True xs (ps b))
    (h : ∀ rows', I rows' → RG P G ops rest Q (St.mk n0 ((d, (True, r)) :: env) ((m, ⟨mapTag, z, rows'⟩) :: bl))) : RG P G ops (⟨some d, .call ⟨.value (.func f), xs.toArray, ats⟩, ty, pos, after, none⟩ :: rest) Q (St.mk n0 env bl) :=
  RG.effF rfl (E_callp (A := St.mk n0 env bl) rfl rfl (blt_lt hn) hg hl hx hni hI hc) fun s => h s.1 s.2
/-- the place of a map of one's own -/
theorem RG.mplace {t n : Nat} {C : Blk} (ht : lk env t = some (True, .mp n)) (h : ∀ b, RG P G ops rest Q (St.mk n0 ((t, (True, .pv (.one (.mpa b)))) :: (1000000, (True, .mpn n b)) :: env) bl)) :
    RG P G ops rest Q (St.mk n0 env bl) := fun Φ β a w hs Q' hq => by
  obtain ⟨b, cap, B, h1, h2, h3, h4⟩ := (hs.env t True _ ht).1 trivial
  refine h b Φ β a w ⟨hs.kept, hs.fits, hs.old, hs.siz, hs.dfr, fun s q v h5 => ?_, hs.blk, hs.vir, hs.inj⟩ Q' hq
  rw [lk_cons] at h5
  split at h5
  · rename_i e; subst e
    simp only [Option.some.injEq, Prod.mk.injEq] at h5
    obtain ⟨rfl, rfl⟩ := h5
    refine ⟨fun _ => ?_, fun hq => (hq trivial).elim⟩
    show Rel _ _ _
    rw [h4]; exact Rel.mpa b
  · rw [lk_cons] at h5
    split at h5
    · simp only [Option.some.injEq, Prod.mk.injEq] at h5
      obtain ⟨rfl, rfl⟩ := h5
      exact ⟨fun _ => ⟨b, cap, B, h1, h2, h3, rfl⟩, fun hq => (hq trivial).elim⟩
    · exact hs.env s q v h5
variable {T : TT} (hT : TOK P T)
include hT
/-- a map out of a struct that stands still -/
theorem Q_loadMp {t g m b : Nat} {x : Operand} {ti : TI} {cs : List Cell} {B : Blk} (hg : lk env g = some (True, .mpn m b)) (hl : lk bl m = some B) (hE : B.E = mapTag) (ht : T t = some ti) (hb : ti.kind.isAgg = some false) (hx : Ev (St.mk n0 env bl) p x (.pv (.one (.ptr (.mpa b :: cs))))) :
    PureOp P G (St.mk n0 env bl) ⟨dst, .load t x, ty, pos, after, gd⟩ p (.mp m) :=
  PureOp.conv (v := .pv (.one (.mpa b))) (Q_loadp hT ht hb hx rfl) fun Φ β a w hs Φ' u h => by
    obtain ⟨b1, cap, B1, k1, k2, k3, rfl⟩ := (hs.env g True _ hg).1 trivial
    exact ⟨b1, cap, B1, k1, k2, k3, rel_mpa h⟩
end
end Lf
end
section
set_option linter.unusedVariables false
set_option linter.unusedSimpArgs false
set_option maxHeartbeats 8000000
set_option linter.unusedSectionVars false
namespace Go.Proofs.YtjedkgogjehigaaGreat
open Lf Go
attribute [local irreducible] PureOp EffOp Ev RG W Then InBlock Lf.Fin nth App InitE Pick SubE EvL EvD EvP EvR ResL Lf.Lex SubR SubBR RA RAll EvC FinO FinM ResM ResD FinS val pw digs trimL
section
structure Fq where
  s : Int
  d : List Int
  s' : Int
  d' : List Int
instance : Inhabited Fq := ⟨⟨0, [], 0, []⟩⟩
instance : Inhabited Rat := ⟨0⟩
abbrev encF (q : Fq) : List Cell := [.int .i64 q.s, .sl (q.d.map Lf.encI), .int .i64 q.s', .sl (q.d'.map Lf.encI)]
abbrev encQ (r : Rat) : List Cell := [.int .i64 (sgn r.num), .sl ((digs (mag r.num)).map Lf.encI), .int .i64 (sgn r.den), .sl ((digs (mag r.den)).map Lf.encI)]
abbrev fqV (q : Fq) : PV := fB q.s q.d q.s' q.d'
abbrev slF (l : List Fq) : PV := .one (.sl (l.map encF))
abbrev slQ (l : List Rat) : PV := .one (.sl (l.map encQ))
def fqOf (r : Rat) : Fq := ⟨sgn r.num, digs (mag r.num), sgn r.den, digs (mag r.den)⟩
theorem slF_of (L : List Rat) : (L.map fqOf).map encF = L.map encQ := by rw [List.map_map]; rfl
def Fq.right (q : Fq) : Bool := rightFB q.s q.d q.s' q.d'
def FqOk (q : Fq) : Prop := q.d.length ≤ 9223372036854775807 ∧ q.d'.length ≤ 9223372036854775807
theorem Fq.rat {q : Fq} (h : q.right = true) : ∃ r : Rat, okF r ∧ q = fqOf r := by
  obtain ⟨r, h1, h2, h3, h4, h5⟩ := frac_of h
  refine ⟨r, h1, ?_⟩
  cases q
  simp only at h2 h3 h4 h5
  rw [h2, h3, h4, h5]; rfl
theorem rats {L : List Fq} (h : (L.any fun q => !q.right) = false) : ∃ R : List Rat, (∀ r ∈ R, okF r) ∧ L = R.map fqOf := by
  induction L with
  | nil => exact ⟨[], by simp, rfl⟩
  | cons q L ih =>
    simp only [List.any_cons, Bool.or_eq_false_iff, Bool.not_eq_false'] at h
    obtain ⟨r, h1, h2⟩ := Fq.rat h.1
    obtain ⟨R, h3, h4⟩ := ih h.2
    exact ⟨r :: R, fun x hx => (List.mem_cons.1 hx).elim (fun e => e ▸ h1) (h3 x), by rw [h2, h4]; rfl⟩
structure Let where
  name : Str
  body : Exp
instance : Inhabited Let := ⟨⟨[], default⟩⟩
def encL (x : Let) : List Cell := [.str x.name, .int .i64 x.body.op, .int .i64 x.body.n, .int .i64 x.body.u, .str x.body.s, .sl (x.body.args.map encE)]
abbrev aL (x : Let) : PV := .agg (encL x)
abbrev slL (l : List Let) : PV := .one (.sl (l.map encL))
theorem indexL_ok (l : List Let) (f : Nat) (caps : List Cell) (p : Let → Bool) (hl : l.length ≤ 9223372036854775807) (hp : ∀ x ∈ l, ACalls Tryz.prog f (aL x :: caps.map PV.one) (.pv (cB (p x)))) : ACalls Tryz.prog 39 [slL l, .one (.fn f caps)] (.pv (cI (fidx p l))) := by
  refine ACalls.of_W (qs := [cI (fidx p l)]) [4] 19 Tryz.func39 (by kernel_rfl) rfl rfl rfl fun G => ?_
  refine W.initA (hw := ?_)
  repeat' (first | ((first | apply U_); (first | exact QX.B TYok | exact QX.Len TYok | exact QX.Idx TYok); exact rfl) | refine SC ?_ | (refine W.condA (ht := fun hb => ?_) (hf := fun hb => ?_) <;> (try simp at hb) <;> (try (exfalso; omega))))
  apply W.loopP (σ := Nat) 19 [0, 1, 7] (fun k => k ≤ l.length ∧ (l.take k).any p = false) (fun k => [(8, vI k)]) (fun _ => []) (fun k => l.length - k) (0)
  case hp => repeat (first | exact Pick.nil | apply Pick.cons rfl)
  case h0 =>
    refine ⟨by simp, ?_⟩
    exact Le.auto
  case round =>
    rintro k ⟨h1, h2⟩
    apply W.norm (by repeat (first | exact App.nil | apply App.cons))
    by_cases hk : k < l.length
    · repeat' (first | ((first | apply U_); (first | exact QX.B TYok | exact QX.Len TYok | exact QX.Idx TYok | (apply Q_callvA (hp (nth l k) (nth_mem hk)); exact Ev.auto; exact EvA.auto)); exact rfl) | refine SC ?_ | (refine W.condA (ht := fun hb => ?_) (hf := fun hb => ?_) <;> (try simp at hb) <;> (try (exfalso; omega))))
      · rw [fidx_hit ‹_› h2 hb]
        exact Fin.ret ResL.auto
      · refine ⟨k + 1, ⟨by omega, ?_⟩, ?_, ?_⟩
        · rw [any_take ‹_›, h2, hb]; rfl
        · exact Le.auto
        · (try simp only); omega
    · obtain rfl : k = l.length := by omega
      rw [List.take_length] at h2
      repeat' (first | ((first | apply U_); (first | exact QX.B TYok | exact QX.Len TYok | exact QX.Idx TYok); exact rfl) | refine SC ?_ | (refine W.condA (ht := fun hb => ?_) (hf := fun hb => ?_) <;> (try simp at hb) <;> (try (exfalso; omega))))
      rw [fidx_miss h2]
      exact Fin.ret ResL.auto
theorem containsL_ok (l : List Let) (f : Nat) (caps : List Cell) (p : Let → Bool) (hl : l.length ≤ 9223372036854775807) (hp : ∀ x ∈ l, ACalls Tryz.prog f (aL x :: caps.map PV.one) (.pv (cB (p x)))) : ACalls Tryz.prog 21 [slL l, .one (.fn f caps)] (.pv (cB (l.any p))) := by
  refine ACalls.of_W (qs := [cB (l.any p)]) [4] 9 Tryz.func21 (by kernel_rfl) rfl rfl rfl fun G => ?_
  refine W.initA (hw := ?_)
  repeat' (first | ((first | apply U_); (first | exact QX.B TYok | exact QCl (indexL_ok l f caps p hl hp)); exact rfl) | refine SC ?_ | (refine W.condA (ht := fun hb => ?_) (hf := fun hb => ?_) <;> (try simp at hb) <;> (try (exfalso; omega))))
  rw [← fidx_nn]
  exact Fin.ret ResL.auto
theorem indexF_ok (l : List Fq) (f : Nat) (caps : List Cell) (p : Fq → Bool) (hl : l.length ≤ 9223372036854775807) (hp : ∀ x ∈ l, ACalls Tryz.prog f (fqV x :: caps.map PV.one) (.pv (cB (p x)))) : ACalls Tryz.prog 64 [slF l, .one (.fn f caps)] (.pv (cI (fidx p l))) := by
  refine ACalls.of_W (qs := [cI (fidx p l)]) [4] 19 Tryz.func64 (by kernel_rfl) rfl rfl rfl fun G => ?_
  refine W.initA (hw := ?_)
  repeat' (first | ((first | apply U_); (first | exact QX.B TYok | exact QX.Len TYok | exact QX.Idx TYok); exact rfl) | refine SC ?_ | (refine W.condA (ht := fun hb => ?_) (hf := fun hb => ?_) <;> (try simp at hb) <;> (try (exfalso; omega))))
  apply W.loopP (σ := Nat) 19 [0, 1, 7] (fun k => k ≤ l.length ∧ (l.take k).any p = false) (fun k => [(8, vI k)]) (fun _ => []) (fun k => l.length - k) (0)
  case hp => repeat (first | exact Pick.nil | apply Pick.cons rfl)
  case h0 =>
    refine ⟨by simp, ?_⟩
    exact Le.auto
  case round =>
    rintro k ⟨h1, h2⟩
    apply W.norm (by repeat (first | exact App.nil | apply App.cons))
    by_cases hk : k < l.length
    · repeat' (first | ((first | apply U_); (first | exact QX.B TYok | exact QX.Len TYok | exact QX.Idx TYok | (apply Q_callvA (hp (nth l k) (nth_mem hk)); exact Ev.auto; exact EvA.auto)); exact rfl) | refine SC ?_ | (refine W.condA (ht := fun hb => ?_) (hf := fun hb => ?_) <;> (try simp at hb) <;> (try (exfalso; omega))))
      · rw [fidx_hit ‹_› h2 hb]
        exact Fin.ret ResL.auto
      · refine ⟨k + 1, ⟨by omega, ?_⟩, ?_, ?_⟩
        · rw [any_take ‹_›, h2, hb]; rfl
        · exact Le.auto
        · (try simp only); omega
    · obtain rfl : k = l.length := by omega
      rw [List.take_length] at h2
      repeat' (first | ((first | apply U_); (first | exact QX.B TYok | exact QX.Len TYok | exact QX.Idx TYok); exact rfl) | refine SC ?_ | (refine W.condA (ht := fun hb => ?_) (hf := fun hb => ?_) <;> (try simp at hb) <;> (try (exfalso; omega))))
      rw [fidx_miss h2]
      exact Fin.ret ResL.auto
theorem containsF_ok (l : List Fq) (f : Nat) (caps : List Cell) (p : Fq → Bool) (hl : l.length ≤ 9223372036854775807) (hp : ∀ x ∈ l, ACalls Tryz.prog f (fqV x :: caps.map PV.one) (.pv (cB (p x)))) : ACalls Tryz.prog 42 [slF l, .one (.fn f caps)] (.pv (cB (l.any p))) := by
  refine ACalls.of_W (qs := [cB (l.any p)]) [4] 9 Tryz.func42 (by kernel_rfl) rfl rfl rfl fun G => ?_
  refine W.initA (hw := ?_)
  repeat' (first | ((first | apply U_); (first | exact QX.B TYok | exact QCl (indexF_ok l f caps p hl hp)); exact rfl) | refine SC ?_ | (refine W.condA (ht := fun hb => ?_) (hf := fun hb => ?_) <;> (try simp at hb) <;> (try (exfalso; omega))))
  rw [← fidx_nn]
  exact Fin.ret ResL.auto
structure EnvV where
  names : List Str
  vals : List Fq
  iss : List Str
  rates : List Fq
structure EnvV.Len (v : EnvV) : Prop where
  h1 : v.names.length ≤ 9223372036854775807
  h2 : v.vals.length ≤ 9223372036854775807
  h3 : v.iss.length ≤ 9223372036854775807
  h4 : v.rates.length ≤ 9223372036854775807
  q1 : ∀ q ∈ v.vals, FqOk q
  q2 : ∀ q ∈ v.rates, FqOk q
abbrev encEnv (v : EnvV) : List Cell := [.sl (v.names.map encS), .sl (v.vals.map encF), .sl (v.iss.map encS), .sl (v.rates.map encF)]
def validF (v : EnvV) : Bool := ((decide ((v.names.length : Int) = v.vals.length) && decide ((v.iss.length : Int) = v.rates.length)) && !(v.vals.any fun q => !q.right)) && !(v.rates.any fun q => !q.right)
inductive Rs where
  | ok (r : Rat)
  | err (e : Int)
instance : Inhabited Rs := ⟨.err 0⟩
def Rs.v : Rs → PV
  | .ok r => zF r
  | .err _ => zF0
def Rs.e : Rs → Int
  | .ok _ => 0
  | .err e => e
/-- a right fraction, or an error that is one -/
def Rs.fit : Rs → Prop
  | .ok r => okF r
  | .err e => e ≠ 0
abbrev resP (R : Rs) : AV := .tup [R.v, cI R.e]
def one01 (b : Bool) : Rat := if b then 1 else 0
theorem one01_eq (b : Bool) : one01 b = Rat.divInt (if b then 1 else 0) 1 := by cases b <;> decide +kernel
theorem one01_ok (b : Bool) : okF (one01 b) := by
  cases b
  · exact okF_int (n := 0) (by unfold i64B; omega)
  · exact okF_int (n := 1) (by unfold i64B; omega)
theorem truth_ok (b : Bool) : ACalls Tryz.prog 46 [cB b] (.tup [zF (one01 b), cI 0]) := by
  have n1 := Of_ok (if b then 1 else 0) 1 (by cases b <;> (unfold i64B; simp)) (by unfold i64B; omega) (by omega)
  rw [← one01_eq] at n1
  generalize one01 b = r at *
  cases b
  all_goals (
    simp only [Bool.false_eq_true, if_true, if_false] at n1
    refine ACalls.of_M TYok (qs := [zF r, cI 0]) [.cell 2 40, .tmp 3] 10 Tryz.func46 (by kernel_rfl) rfl rfl rfl fun G => ?_
    refine W.initA (hw := ?_)
    repeat' (first | ((first | apply U_); (first | exact QX.B TYok | exact QX.Ext TYok | exact QCd (n1)); exact rfl) | refine SX.Alloc TYok (h := ?_) | refine SX.Store TYok (h := ?_) | refine SC ?_ | (refine W.condA (ht := fun hb => ?_) (hf := fun hb => ?_) <;> (try simp at hb) <;> (try (exfalso; omega))))
    all_goals exact FinM.ret ResM.auto)
def lookF (names : List Str) (vals : List Rat) (s : Str) : Rs := if s ∈ names then .ok (nth vals (names.idxOf s)) else .err 14
theorem lookup_ok (names : List Str) (vals : List Rat) (s : Str) (hl : names.length ≤ 9223372036854775807) (he : names.length = vals.length) : ACalls Tryz.prog 45 [slS names, slQ vals, cS s] (resP (lookF names vals s)) := by
  have h1 := index_ok names s hl
  unfold lookF
  by_cases hm : s ∈ names
  · have hi := List.idxOf_lt_length_iff.2 hm
    rw [if_pos hm] at h1
    rw [if_pos hm]
    generalize names.idxOf s = i at *
    refine ACalls.of_M TYok (qs := [zF (nth vals i), cI 0]) [.cell 6 40, .tmp 7] 19 Tryz.func45 (by kernel_rfl) rfl rfl rfl fun G => ?_
    refine W.initA (hw := ?_)
    repeat' (first | ((first | apply U_); (first | exact QX.B TYok | exact QX.Idx TYok | exact QX.Build TYok | exact QCd (h1)); exact rfl) | refine SX.Alloc TYok (h := ?_) | refine SX.Store TYok (h := ?_) | refine SC ?_ | (refine W.condA (ht := fun hb => ?_) (hf := fun hb => ?_) <;> (try simp at hb) <;> (try (exfalso; omega))))
    all_goals exact FinM.ret ResM.auto
  · rw [if_neg hm] at h1
    rw [if_neg hm]
    refine ACalls.of_M TYok (qs := [zF0, cI 14]) [.cell 6 40, .tmp 7] 19 Tryz.func45 (by kernel_rfl) rfl rfl rfl fun G => ?_
    refine W.initA (hw := ?_)
    repeat' (first | ((first | apply U_); (first | exact QX.B TYok | exact QX.Idx TYok | exact QX.Build TYok | exact QCd (h1)); exact rfl) | refine SX.Alloc TYok (h := ?_) | refine SX.Store TYok (h := ?_) | refine SC ?_ | (refine W.condA (ht := fun hb => ?_) (hf := fun hb => ?_) <;> (try simp at hb) <;> (try (exfalso; omega))))
    all_goals exact FinM.ret (ResM.cell rfl rfl rfl rfl zeroSubF (ResM.tmp rfl rfl PSub.rfl' ResM.nil))
open Classical in
noncomputable def addR (a b : Rat) : Rs := if addOk a b then .ok (a + b) else .err 6
open Classical in
noncomputable def subR (a b : Rat) : Rs := if subOk a b then .ok (a - b) else .err 6
open Classical in
noncomputable def mulR (a b : Rat) : Rs := if mulOk a b then .ok (a * b) else .err 6
open Classical in
noncomputable def divR (a b : Rat) : Rs := if b.num = 0 then .err 15 else if divOk a b then .ok (a / b) else .err 6
noncomputable def binF (op : Int) (a b : Rat) : Rs :=
  if op = 4 then addR a b else if op = 5 then subR a b else if op = 6 then mulR a b else if op = 7 then divR a b
  else if op = 8 then .ok (if cmpR a b ≤ 0 then a else b) else if op = 9 then .ok (if cmpR a b ≤ 0 then b else a)
  else if op = 10 then .ok (one01 (decide (cmpR a b < 0))) else if op = 11 then .ok (one01 (decide (cmpR a b = 0))) else .ok (one01 (!decide (sgn b.num = 0)))
theorem addR_fit (a b : Rat) : (addR a b).fit := by
  unfold addR; split
  · exact addOk_okF ‹_›
  · exact (by decide : (6 : Int) ≠ 0)
theorem subR_fit (a b : Rat) : (subR a b).fit := by
  unfold subR; split
  · rw [Rat.sub_eq_add_neg]; exact addOk_okF ((sub_add a b).1 ‹_›)
  · exact (by decide : (6 : Int) ≠ 0)
theorem mulR_fit (a b : Rat) : (mulR a b).fit := by
  unfold mulR; split
  · exact mulOk_okF ‹_›
  · exact (by decide : (6 : Int) ≠ 0)
theorem divR_fit (a b : Rat) : (divR a b).fit := by
  unfold divR; split
  · exact (by decide : (15 : Int) ≠ 0)
  · split
    · rename_i h0 h
      rw [show (Rs.ok (a / b)).fit = okF (a / b) from rfl, rat_div a b h0]
      exact okF_of h.1 h.2 (mul_ne (den_ne a) h0)
    · exact (by decide : (6 : Int) ≠ 0)
theorem binF_fit (op : Int) {a b : Rat} (ha : okF a) (hb : okF b) : (binF op a b).fit := by
  unfold binF
  repeat' split
  · exact addR_fit a b
  · exact subR_fit a b
  · exact mulR_fit a b
  · exact divR_fit a b
  all_goals first
    | exact ha
    | exact hb
    | exact one01_ok _
    | (show okF _; split <;> assumption)
theorem add_all (a b : Rat) (ha : okF a) (hb : okF b) : ACalls Tryz.prog 70 [zF a, zF b] (resP (addR a b)) := by
  unfold addR; split
  · exact add_yes a b ha hb ‹_›
  · exact add_no a b ha hb ‹_›
theorem sub_all (a b : Rat) (ha : okF a) (hb : okF b) : ACalls Tryz.prog 71 [zF a, zF b] (resP (subR a b)) := by
  unfold subR; split
  · exact fsub_yes a b ha hb ((sub_add a b).1 ‹_›)
  · exact fsub_no a b ha hb ‹_›
theorem mul_all (a b : Rat) (ha : okF a) (hb : okF b) : ACalls Tryz.prog 72 [zF a, zF b] (resP (mulR a b)) := by
  unfold mulR; split
  · exact fmul_yes a b ha hb ‹_›
  · exact fmul_no a b ha hb ‹_›
theorem div_all (a b : Rat) (ha : okF a) (hb : okF b) : ACalls Tryz.prog 73 [zF a, zF b] (resP (divR a b)) := by
  unfold divR; split
  · exact fdiv_zero a b ha hb ‹_›
  · split
    · exact fdiv_yes a b ha hb ‹_› ‹_›
    · exact fdiv_no a b ha hb ‹_› ‹_›
attribute [local irreducible] sgn mag gcdZ quoZ remZ fullZ fullE
theorem Rs.v_agg (R : Rs) : ∃ (x1 : Int) (x2 : List Int) (x3 : Int) (x4 : List Int), R.v = .agg [.int .i64 x1, .sl (x2.map Lf.encI), .int .i64 x3, .sl (x4.map Lf.encI)] := by
  cases R with
  | ok r => exact ⟨_, _, _, _, rfl⟩
  | err e => exact ⟨0, [], 0, [], rfl⟩
theorem bin_call {op : Int} {f : Nat} {a b : Rat} {R : Rs} (ha : okF a) (hb : okF b) (hf : (op = 4 ∧ f = 70) ∨ (op = 5 ∧ f = 71) ∨ (op = 6 ∧ f = 72) ∨ (op = 7 ∧ f = 73)) (hc : ACalls Tryz.prog f [zF a, zF b] (resP R)) : ACalls Tryz.prog 47 [cI op, zF a, zF b] (resP R) := by
  have h1 := fcmp_ok a b ha hb
  obtain ⟨x1, x2, x3, x4, hv⟩ := R.v_agg
  unfold resP at hc ⊢
  rw [hv] at hc ⊢
  generalize R.e = e at *
  generalize cmpR a b = c at *
  rcases hf with ⟨rfl, rfl⟩ | ⟨rfl, rfl⟩ | ⟨rfl, rfl⟩ | ⟨rfl, rfl⟩
  all_goals (
    refine ACalls.of_M TYok (qs := [.agg [.int .i64 x1, .sl (x2.map Lf.encI), .int .i64 x3, .sl (x4.map Lf.encI)], cI e]) [.cell 6 40, .tmp 7] 72 Tryz.func47 (by kernel_rfl) rfl rfl rfl fun G => ?_
    refine W.initA (hw := ?_)
    repeat' (first | ((first | apply U_); (first | exact QX.B TYok | exact QX.Ext TYok | exact QCd (h1) | exact QCd (hc)); exact rfl) | refine SX.Alloc TYok (h := ?_) | refine SX.Store TYok (h := ?_) | refine SX.Box TYok (h := ?_) | refine SC ?_ | (apply S_isnil TYok; exact rfl; exact rfl; exact rfl; exact Ev.auto; intro bn hnil) | (refine W.condA (ht := fun hb => ?_) (hf := fun hb => ?_) <;> (try simp at hb) <;> (try (exfalso; omega))))
    all_goals exact FinM.ret ResM.auto)
theorem bin_truth {op : Int} {a b : Rat} (ha : okF a) (hb : okF b) (hop : op = 10 ∨ op = 11 ∨ op = 13 ∨ op = 14) : ACalls Tryz.prog 47 [cI op, zF a, zF b] (.tup [zF (one01 (if op = 10 then decide (cmpR a b < 0) else if op = 11 then decide (cmpR a b = 0) else !decide (sgn b.num = 0))), cI 0]) := by
  have h1 := fcmp_ok a b ha hb
  rcases hop with rfl | rfl | rfl | rfl
  · rw [if_pos rfl]
    have t1 := truth_ok (decide (cmpR a b < 0))
    generalize cmpR a b = c at *
    generalize one01 (decide (c < 0)) = r at *
    refine ACalls.of_M TYok (qs := [zF r, cI 0]) [.cell 6 40, .tmp 7] 72 Tryz.func47 (by kernel_rfl) rfl rfl rfl fun G => ?_
    refine W.initA (hw := ?_)
    repeat' (first | ((first | apply U_); (first | exact QX.B TYok | exact QX.Ext TYok | exact QCd (h1) | exact QCd (t1)); exact rfl) | refine SX.Alloc TYok (h := ?_) | refine SX.Store TYok (h := ?_) | refine SX.Box TYok (h := ?_) | refine SC ?_ | (apply S_isnil TYok; exact rfl; exact rfl; exact rfl; exact Ev.auto; intro bn hnil) | (refine W.condA (ht := fun hb => ?_) (hf := fun hb => ?_) <;> (try simp at hb) <;> (try (exfalso; omega))))
    all_goals exact FinM.ret ResM.auto
  · rw [if_neg (by omega), if_pos rfl]
    have t1 := truth_ok (decide (cmpR a b = 0))
    generalize cmpR a b = c at *
    generalize one01 (decide (c = 0)) = r at *
    refine ACalls.of_M TYok (qs := [zF r, cI 0]) [.cell 6 40, .tmp 7] 72 Tryz.func47 (by kernel_rfl) rfl rfl rfl fun G => ?_
    refine W.initA (hw := ?_)
    repeat' (first | ((first | apply U_); (first | exact QX.B TYok | exact QX.Ext TYok | exact QCd (h1) | exact QCd (t1)); exact rfl) | refine SX.Alloc TYok (h := ?_) | refine SX.Store TYok (h := ?_) | refine SX.Box TYok (h := ?_) | refine SC ?_ | (apply S_isnil TYok; exact rfl; exact rfl; exact rfl; exact Ev.auto; intro bn hnil) | (refine W.condA (ht := fun hb => ?_) (hf := fun hb => ?_) <;> (try simp at hb) <;> (try (exfalso; omega))))
    all_goals exact FinM.ret ResM.auto
  all_goals (
    rw [if_neg (by omega), if_neg (by omega)]
    have t1 := truth_ok (!decide (sgn b.num = 0))
    generalize cmpR a b = c at *
    generalize one01 (!decide (sgn b.num = 0)) = r at *
    refine ACalls.of_M TYok (qs := [zF r, cI 0]) [.cell 6 40, .tmp 7] 72 Tryz.func47 (by kernel_rfl) rfl rfl rfl fun G => ?_
    refine W.initA (hw := ?_)
    repeat' (first | ((first | apply U_); (first | exact QX.B TYok | exact QX.Ext TYok | exact QCd (h1) | exact QCd (t1)); exact rfl) | refine SX.Alloc TYok (h := ?_) | refine SX.Store TYok (h := ?_) | refine SX.Box TYok (h := ?_) | refine SC ?_ | (apply S_isnil TYok; exact rfl; exact rfl; exact rfl; exact Ev.auto; intro bn hnil) | (refine W.condA (ht := fun hb => ?_) (hf := fun hb => ?_) <;> (try simp at hb) <;> (try (exfalso; omega))))
    all_goals exact FinM.ret ResM.auto)
theorem bin_pick {op : Int} {a b : Rat} (ha : okF a) (hb : okF b) (hop : op = 8 ∨ op = 9) : ACalls Tryz.prog 47 [cI op, zF a, zF b] (.tup [zF (if op = 8 then (if cmpR a b ≤ 0 then a else b) else (if cmpR a b ≤ 0 then b else a)), cI 0]) := by
  have h1 := fcmp_ok a b ha hb
  rcases hop with rfl | rfl
  · rw [if_pos rfl]
    generalize cmpR a b = c at *
    by_cases hc : c ≤ 0
    · rw [if_pos hc]
      refine ACalls.of_M TYok (qs := [zF a, cI 0]) [.cell 6 40, .tmp 7] 72 Tryz.func47 (by kernel_rfl) rfl rfl rfl fun G => ?_
      refine W.initA (hw := ?_)
      repeat' (first | ((first | apply U_); (first | exact QX.B TYok | exact QX.Ext TYok | exact QCd (h1)); exact rfl) | refine SX.Alloc TYok (h := ?_) | refine SX.Store TYok (h := ?_) | refine SX.Box TYok (h := ?_) | refine SC ?_ | (apply S_isnil TYok; exact rfl; exact rfl; exact rfl; exact Ev.auto; intro bn hnil) | (refine W.condA (ht := fun hb => ?_) (hf := fun hb => ?_) <;> (try simp at hb) <;> (try (exfalso; omega))))
      all_goals exact FinM.ret ResM.auto
    · rw [if_neg hc]
      refine ACalls.of_M TYok (qs := [zF b, cI 0]) [.cell 6 40, .tmp 7] 72 Tryz.func47 (by kernel_rfl) rfl rfl rfl fun G => ?_
      refine W.initA (hw := ?_)
      repeat' (first | ((first | apply U_); (first | exact QX.B TYok | exact QX.Ext TYok | exact QCd (h1)); exact rfl) | refine SX.Alloc TYok (h := ?_) | refine SX.Store TYok (h := ?_) | refine SX.Box TYok (h := ?_) | refine SC ?_ | (apply S_isnil TYok; exact rfl; exact rfl; exact rfl; exact Ev.auto; intro bn hnil) | (refine W.condA (ht := fun hb => ?_) (hf := fun hb => ?_) <;> (try simp at hb) <;> (try (exfalso; omega))))
      all_goals exact FinM.ret ResM.auto
  · rw [if_neg (by omega)]
    generalize cmpR a b = c at *
    by_cases hc : c ≤ 0
    · rw [if_pos hc]
      refine ACalls.of_M TYok (qs := [zF b, cI 0]) [.cell 6 40, .tmp 7] 72 Tryz.func47 (by kernel_rfl) rfl rfl rfl fun G => ?_
      refine W.initA (hw := ?_)
      repeat' (first | ((first | apply U_); (first | exact QX.B TYok | exact QX.Ext TYok | exact QCd (h1)); exact rfl) | refine SX.Alloc TYok (h := ?_) | refine SX.Store TYok (h := ?_) | refine SX.Box TYok (h := ?_) | refine SC ?_ | (apply S_isnil TYok; exact rfl; exact rfl; exact rfl; exact Ev.auto; intro bn hnil) | (refine W.condA (ht := fun hb => ?_) (hf := fun hb => ?_) <;> (try simp at hb) <;> (try (exfalso; omega))))
      all_goals exact FinM.ret ResM.auto
    · rw [if_neg hc]
      refine ACalls.of_M TYok (qs := [zF a, cI 0]) [.cell 6 40, .tmp 7] 72 Tryz.func47 (by kernel_rfl) rfl rfl rfl fun G => ?_
      refine W.initA (hw := ?_)
      repeat' (first | ((first | apply U_); (first | exact QX.B TYok | exact QX.Ext TYok | exact QCd (h1)); exact rfl) | refine SX.Alloc TYok (h := ?_) | refine SX.Store TYok (h := ?_) | refine SX.Box TYok (h := ?_) | refine SC ?_ | (apply S_isnil TYok; exact rfl; exact rfl; exact rfl; exact Ev.auto; intro bn hnil) | (refine W.condA (ht := fun hb => ?_) (hf := fun hb => ?_) <;> (try simp at hb) <;> (try (exfalso; omega))))
      all_goals exact FinM.ret ResM.auto
theorem binary_ok (op : Int) {a b : Rat} (ha : okF a) (hb : okF b) (hop : (4 ≤ op ∧ op ≤ 11) ∨ op = 13 ∨ op = 14) : ACalls Tryz.prog 47 [cI op, zF a, zF b] (resP (binF op a b)) := by
  by_cases h4 : op = 4
  · subst h4; exact bin_call ha hb (.inl ⟨rfl, rfl⟩) (add_all a b ha hb)
  by_cases h5 : op = 5
  · subst h5; exact bin_call ha hb (.inr (.inl ⟨rfl, rfl⟩)) (sub_all a b ha hb)
  by_cases h6 : op = 6
  · subst h6; exact bin_call ha hb (.inr (.inr (.inl ⟨rfl, rfl⟩))) (mul_all a b ha hb)
  by_cases h7 : op = 7
  · subst h7; exact bin_call ha hb (.inr (.inr (.inr ⟨rfl, rfl⟩))) (div_all a b ha hb)
  unfold binF
  rw [if_neg h4, if_neg h5, if_neg h6, if_neg h7]
  by_cases h8 : op = 8
  · subst h8; exact bin_pick ha hb (.inl rfl)
  by_cases h9 : op = 9
  · subst h9; exact bin_pick ha hb (.inr rfl)
  rw [if_neg h8, if_neg h9]
  have ht := bin_truth (op := op) ha hb (by omega)
  by_cases h10 : op = 10
  · subst h10; exact ht
  by_cases h11 : op = 11
  · subst h11; exact ht
  rw [if_neg h10, if_neg h11] at ht ⊢
  exact ht
end
end Go.Proofs.YtjedkgogjehigaaGreat
end
section
set_option linter.unusedVariables false
set_option linter.unusedSimpArgs false
set_option maxHeartbeats 8000000
set_option linter.unusedSectionVars false
namespace Go.Proofs.YtjedkgogjehigaaGreat
open Lf Go
attribute [local irreducible] PureOp EffOp Ev RG W Then InBlock Lf.Fin nth App InitE Pick SubE EvL EvD EvP EvR ResL Lf.Lex SubR SubBR RA RAll EvC FinO FinM ResM ResD FinS val pw digs trimL
section
mutual
def tempF : Exp → Bool
  | .mk op _ _ _ l => ((decide (op = 16) || decide (op = 17)) || decide (op = 18)) || tempFs l
def tempFs : List Exp → Bool
  | [] => false
  | e :: r => tempF e || tempFs r
end
theorem tempFs_any : ∀ l, tempFs l = l.any tempF
  | [] => rfl
  | e :: r => by rw [tempFs, tempFs_any r]; rfl
theorem temp_ok (e : Exp) : OkE e → ACalls Tryz.prog 38 [aE e] (.pv (cB (tempF e))) := by
  refine Exp.ind (P := fun e => OkE e → ACalls Tryz.prog 38 [aE e] (.pv (cB (tempF e)))) (fun op n u s l ih he => ?_) e
  cases he with
  | mk hs hl h =>
  rw [aE_mk, tempF, tempFs_any]
  have hc := containsE_ok l 38 [] tempF hl (fun x hx => ih x hx (h x hx))
  generalize l.any tempF = b at *
  refine ACalls.of_W (qs := [cB (((decide (op = 16) || decide (op = 17)) || decide (op = 18)) || b)]) [2] 21 Tryz.func38 (by kernel_rfl) rfl rfl rfl fun G => ?_
  refine W.initA (hw := ?_)
  repeat' (first | ((first | apply U_ | (apply Ug_; exact rfl; exact rfl) | (apply Ugq_; exact rfl; exact rfl)); (first | exact QX.B TYok | exact QCl (hc)); exact rfl) | refine SX.Box TYok (h := ?_) | refine SC ?_ | (apply S_isnil TYok; exact rfl; exact rfl; exact rfl; exact Ev.auto; intro bn hnil) | (apply RG.gT; exact rfl; exact rfl; (first | assumption | decide)) | (apply RG.gF; exact rfl; exact rfl; (first | assumption | decide | (rw [ne_eq, Bool.not_eq_true]; assumption) | (rw [ne_eq, Bool.not_eq_false]; assumption)); exact rfl) | (refine W.condA (ht := fun hb => ?_) (hf := fun hb => ?_) <;> (try simp at hb) <;> (try (exfalso; omega))))
  exact Fin.ret ResL.auto
theorem rightExp_ok (e : Exp) (he : OkE e) : ACalls Tryz.prog 30 [aE e] (.pv (cB (rightF 12 e))) := by
  have h := rightE_ok 12 e (by omega) he
  refine ACalls.of_W (qs := [cB (rightF 12 e)]) [2] 5 Tryz.func30 (by kernel_rfl) rfl rfl rfl fun G => ?_
  refine W.initA (hw := ?_)
  repeat' (first | ((first | apply U_); (first | exact QX.B TYok | exact QCd (h)); exact rfl) | refine SX.Box TYok (h := ?_) | refine SC ?_ | (refine W.condA (ht := fun hb => ?_) (hf := fun hb => ?_) <;> (try simp at hb) <;> (try (exfalso; omega))))
  exact Fin.ret ResL.auto
def statF (e : Exp) : Bool := rightF 12 e && !tempF e
theorem stat_ok (e : Exp) (he : OkE e) : ACalls Tryz.prog 20 [aE e] (.pv (cB (statF e))) := by
  have h1 := rightExp_ok e he
  have h2 := temp_ok e he
  unfold statF
  generalize rightF 12 e = b1 at *
  generalize tempF e = b2 at *
  refine ACalls.of_W (qs := [cB (b1 && !b2)]) [2] 10 Tryz.func20 (by kernel_rfl) rfl rfl rfl fun G => ?_
  refine W.initA (hw := ?_)
  repeat' (first | ((first | apply U_ | (apply Ug_; exact rfl; exact rfl) | (apply Ugq_; exact rfl; exact rfl)); (first | exact QX.B TYok | exact QCd (h1) | exact QCd (h2)); exact rfl) | refine SX.Box TYok (h := ?_) | refine SC ?_ | (apply RG.gT; exact rfl; exact rfl; (first | assumption | decide)) | (apply RG.gF; exact rfl; exact rfl; (first | assumption | decide | (rw [ne_eq, Bool.not_eq_true]; assumption) | (rw [ne_eq, Bool.not_eq_false]; assumption)); exact rfl) | (refine W.condA (ht := fun hb => ?_) (hf := fun hb => ?_) <;> (try simp at hb) <;> (try (exfalso; omega))))
  exact Fin.ret ResL.auto
theorem badL_ok (y : Let) (h : OkE y.body) : ACalls Tryz.prog 22 [aL y] (.pv (cB (!statF y.body))) := by
  have q := stat_ok y.body h
  generalize statF y.body = b at *
  refine ACalls.of_W (qs := [cB (!b)]) [2] 7 Tryz.func22 (by kernel_rfl) rfl rfl rfl fun G => ?_
  refine W.initA (hw := ?_)
  repeat' (first | ((first | apply U_); (first | exact QX.B TYok | exact QCd (q)); exact rfl) | refine SX.Box TYok (h := ?_) | refine SC ?_ | (refine W.condA (ht := fun hb => ?_) (hf := fun hb => ?_) <;> (try simp at hb) <;> (try (exfalso; omega))))
  exact Fin.ret ResL.auto
theorem badF_ok (q : Fq) (h : FqOk q) : ACalls Tryz.prog 40 [fqV q] (.pv (cB (!q.right))) := by
  have r1 := fright_ok q.s q.d q.s' q.d' h.1 h.2
  rw [show rightFB q.s q.d q.s' q.d' = q.right from rfl] at r1
  generalize q.right = b at *
  refine ACalls.of_W (qs := [cB (!b)]) [2] 6 Tryz.func40 (by kernel_rfl) rfl rfl rfl fun G => ?_
  refine W.initA (hw := ?_)
  repeat' (first | ((first | apply U_); (first | exact QX.B TYok | exact QCd (r1)); exact rfl) | refine SX.Box TYok (h := ?_) | refine SC ?_ | (refine W.condA (ht := fun hb => ?_) (hf := fun hb => ?_) <;> (try simp at hb) <;> (try (exfalso; omega))))
  exact Fin.ret ResL.auto
theorem valid_ok (v : EnvV) (h : v.Len) : ACalls Tryz.prog 23 [.agg (encEnv v)] (.pv (cB (validF v))) := by
  have c1 := containsF_ok v.vals 40 [] (fun q => !q.right) h.h2 (fun x hx => badF_ok x (h.q1 x hx))
  have c2 := containsF_ok v.rates 40 [] (fun q => !q.right) h.h4 (fun x hx => badF_ok x (h.q2 x hx))
  obtain ⟨N, V, I, R⟩ := v
  unfold validF
  simp only at c1 c2 ⊢
  generalize (V.any fun q => !q.right) = b1 at *
  generalize (R.any fun q => !q.right) = b2 at *
  refine ACalls.of_W (qs := [cB (((decide ((N.length : Int) = V.length) && decide ((I.length : Int) = R.length)) && !b1) && !b2)]) [2] 34 Tryz.func23 (by kernel_rfl) rfl rfl rfl fun G => ?_
  refine W.initA (hw := ?_)
  repeat' (first | ((first | apply U_ | (apply Ug_; exact rfl; exact rfl) | (apply Ugq_; exact rfl; exact rfl)); (first | exact QX.B TYok | exact QX.Len TYok | exact QCd (c1) | exact QCd (c2)); exact rfl) | refine SX.Box TYok (h := ?_) | refine SC ?_ | (apply S_isnil TYok; exact rfl; exact rfl; exact rfl; exact Ev.auto; intro bn hnil) | (apply RG.gT; exact rfl; exact rfl; (first | assumption | decide)) | (apply RG.gF; exact rfl; exact rfl; (first | assumption | decide | (rw [ne_eq, Bool.not_eq_true]; assumption) | (rw [ne_eq, Bool.not_eq_false]; assumption)); exact rfl) | (refine W.condA (ht := fun hb => ?_) (hf := fun hb => ?_) <;> (try simp at hb) <;> (try (exfalso; omega))))
  all_goals exact Fin.ret ResL.auto
end
end Go.Proofs.YtjedkgogjehigaaGreat
end
section
set_option linter.unusedVariables false
set_option linter.unusedSimpArgs false
set_option maxHeartbeats 8000000
set_option linter.unusedSectionVars false
namespace Go.Proofs.YtjedkgogjehigaaGreat
open Lf Go
attribute [local irreducible] PureOp EffOp Ev RG W Then InBlock Lf.Fin nth App InitE Pick SubE EvL EvD EvP EvR ResL Lf.Lex SubR SubBR RA RAll EvC FinO FinM ResM ResD FinS val pw digs trimL
section
structure EnvQ where
  names : List Str
  vals : List Rat
  iss : List Str
  rates : List Rat
/-- the value of a name, among the definitions whose values are known -/
def nameEq (s : Str) (y : Let) : Bool := decide (y.name = s)
def lookN (lets : List Let) (vs : List Rs) (s : Str) : Rs := if (lets.take vs.length).any (nameEq s) then nth vs ((lets.take vs.length).findIdx (nameEq s)) else .err 14
noncomputable def stepF (lets : List Let) (en : EnvQ) (vs : List Rs) (op n u : Int) (s : Str) (A : List Rs) : Rs :=
  if op = 0 then .ok (if u = 2 then Rat.divInt n 1000 else Rat.divInt n 1)
  else if op = 1 then lookN lets vs s
  else if op = 2 then lookF en.names en.vals s
  else if op = 3 then lookF en.iss en.rates s
  else match nth A 0 with
  | .err e => .err e
  | .ok a =>
    if op = 12 then .ok (one01 (decide (sgn a.num = 0)))
    else if op = 15 then (if sgn a.num = 0 then nth A 2 else nth A 1)
    else if op = 13 ∧ sgn a.num = 0 ∨ op = 14 ∧ sgn a.num ≠ 0 then .ok (one01 (!decide (sgn a.num = 0)))
    else match nth A 1 with
    | .err e => .err e
    | .ok b => binF op a b
mutual
noncomputable def evF (lets : List Let) (en : EnvQ) (vs : List Rs) : Exp → Rs
  | .mk op n u s l => stepF lets en vs op n u s (evFs lets en vs l)
noncomputable def evFs (lets : List Let) (en : EnvQ) (vs : List Rs) : List Exp → List Rs
  | [] => []
  | e :: r => evF lets en vs e :: evFs lets en vs r
end
theorem evFs_map (lets : List Let) (en : EnvQ) (vs : List Rs) : ∀ l, evFs lets en vs l = l.map (evF lets en vs)
  | [] => by rw [evFs]; rfl
  | e :: r => by rw [evFs, evFs_map lets en vs r]; rfl
theorem evF_mk (lets : List Let) (en : EnvQ) (vs : List Rs) (op n u : Int) (s : Str) (l : List Exp) : evF lets en vs (.mk op n u s l) = stepF lets en vs op n u s (l.map (evF lets en vs)) := by rw [evF, evFs_map]
/-- the values of the first definitions -/
noncomputable def tabF (lets : List Let) (en : EnvQ) : Nat → List Rs
  | 0 => []
  | k + 1 => tabF lets en k ++ [evF lets en (tabF lets en k) (nth lets k).body]
theorem tabF_len (lets : List Let) (en : EnvQ) : ∀ n, (tabF lets en n).length = n
  | 0 => rfl
  | k + 1 => by rw [tabF, List.length_append, tabF_len lets en k]; rfl
theorem tabF_nth (lets : List Let) (en : EnvQ) {i : Nat} : ∀ {n : Nat}, i < n → nth (tabF lets en n) i = evF lets en (tabF lets en i) (nth lets i).body
  | 0, h => by omega
  | n + 1, h => by
    rw [tabF]
    by_cases e : i = n
    · subst e
      rw [nth, List.getD_eq_getElem?_getD, List.getElem?_append_right (by rw [tabF_len]; omega), tabF_len, Nat.sub_self]; rfl
    · have := tabF_nth lets en (i := i) (n := n) (by omega)
      rw [nth, List.getD_eq_getElem?_getD] at this ⊢
      rw [List.getElem?_append_left (by rw [tabF_len]; omega)]; exact this
noncomputable def valF (lets : List Let) (en : EnvQ) (n : Nat) (e : Exp) : Rs := evF lets en (tabF lets en n) e
theorem nth_map2 {α β : Type} [Inhabited α] [Inhabited β] {f : α → β} {l : List α} {k : Nat} (h : k < l.length) : nth (l.map f) k = f (nth l k) := by
  rw [nth, nth, List.getD_eq_getElem?_getD, List.getD_eq_getElem?_getD, List.getElem?_map, List.getElem?_eq_getElem h]; rfl
structure EnvQ.Ok (en : EnvQ) : Prop where
  v : ∀ r ∈ en.vals, okF r
  r : ∀ r ∈ en.rates, okF r
  l1 : en.names.length = en.vals.length
  l2 : en.iss.length = en.rates.length
  b1 : en.names.length ≤ 9223372036854775807
  b2 : en.iss.length ≤ 9223372036854775807
theorem lookF_fit {names : List Str} {vals : List Rat} {s : Str} (h : names.length = vals.length) (hv : ∀ r ∈ vals, okF r) : (lookF names vals s).fit := by
  unfold lookF
  split
  · rename_i hm
    exact hv _ (nth_mem (by have := List.idxOf_lt_length_iff.2 hm; omega))
  · exact (by decide : (14 : Int) ≠ 0)
theorem lookN_fit {lets : List Let} {vs : List Rs} {s : Str} (h : ∀ R ∈ vs, R.fit) : (lookN lets vs s).fit := by
  unfold lookN
  split
  · rename_i hm
    have hi := List.findIdx_lt_length_of_exists (List.any_eq_true.1 hm)
    exact h _ (nth_mem (by rw [List.length_take] at hi; omega))
  · exact (by decide : (14 : Int) ≠ 0)
theorem i64_15 {n : Int} (h : inF 0 1000000000000000 n = true) : i64B n := by
  unfold inF at h
  simp only [Bool.and_eq_true, decide_eq_true_iff] at h
  unfold i64B; omega
theorem opsF_two {op : Int} (h : opsF op = 2) : (4 ≤ op ∧ op ≤ 11) ∨ op = 13 ∨ op = 14 := by
  unfold opsF at h
  repeat' split at h
  all_goals omega
theorem opsF_cases {op : Int} {k : Nat} (h : (k : Int) = opsF op) : ((op = 0 ∨ op = 1 ∨ op = 2 ∨ op = 3) ∧ k = 0) ∨ ((op = 12 ∨ op = 16 ∨ op = 17 ∨ op = 18) ∧ k = 1) ∨ (op = 15 ∧ k = 3) ∨ (((4 ≤ op ∧ op ≤ 11) ∨ op = 13 ∨ op = 14) ∧ k = 2) := by
  by_cases h2 : opsF op = 2
  · have := opsF_two h2; omega
  unfold opsF at h h2
  repeat' split at h
  all_goals (first | omega | (exfalso; split at h2 <;> (try split at h2) <;> (try split at h2) <;> (try split at h2) <;> omega))
/-- what a right expression that is not about days looks like -/
theorem stat_cases {d : Nat} {op n u : Int} {s : Str} {l : List Exp} (hr : rightF (d + 1) (.mk op n u s l) = true) (ht : tempF (.mk op n u s l) = false) :
    (op = 0 ∧ l = [] ∧ i64B n) ∨ (op = 1 ∧ l = []) ∨ (op = 2 ∧ l = []) ∨ (op = 3 ∧ l = []) ∨ ((op = 12 ∧ l.length = 1 ∨ op = 15 ∧ l.length = 3 ∨ ((4 ≤ op ∧ op ≤ 11) ∨ op = 13 ∨ op = 14) ∧ l.length = 2) ∧ ∀ x ∈ l, rightF d x = true ∧ tempF x = false) := by
  rw [rightF] at hr
  rw [tempF, tempFs_any] at ht
  simp only [Bool.and_eq_true, decide_eq_true_iff, Bool.or_eq_false_iff, decide_eq_false_iff_not] at hr ht
  obtain ⟨h1, h2⟩ := hr
  obtain ⟨⟨⟨t1, t2⟩, t3⟩, t4⟩ := ht
  have tl : ∀ x ∈ l, tempF x = false := fun x hx => by
    cases h : tempF x with
    | false => rfl
    | true => rw [List.any_eq_true.2 ⟨x, hx, h⟩] at t4; cases t4
  rcases opsF_cases h1 with ⟨q, hk⟩ | ⟨q, hk⟩ | ⟨q, hk⟩ | ⟨q, hk⟩
  · have hl : l = [] := List.length_eq_zero_iff.1 hk
    rcases q with rfl | rfl | rfl | rfl
    · refine .inl ⟨rfl, hl, ?_⟩
      rw [if_pos rfl] at h2
      simp only [Bool.and_eq_true] at h2
      have h3 := h2.2
      split at h3
      · unfold inF at h3
        simp only [Bool.and_eq_true, decide_eq_true_iff] at h3
        unfold i64B; omega
      · exact i64_15 h3
    · exact .inr (.inl ⟨rfl, hl⟩)
    · exact .inr (.inr (.inl ⟨rfl, hl⟩))
    · exact .inr (.inr (.inr (.inl ⟨rfl, hl⟩)))
  all_goals (
    rw [if_neg (by omega), if_neg (by omega), if_neg (by omega)] at h2
    simp only [Bool.and_eq_true, List.all_eq_true] at h2
    exact .inr (.inr (.inr (.inr ⟨by omega, fun x hx => ⟨h2.2 x hx, tl x hx⟩⟩))))
theorem evF_fit {lets : List Let} {en : EnvQ} (he : en.Ok) {vs : List Rs} (hv : ∀ R ∈ vs, R.fit) : ∀ (d : Nat) (e : Exp), rightF d e = true → tempF e = false → (evF lets en vs e).fit
  | 0, .mk op n u s l, hr, _ => by rw [rightF] at hr; cases hr
  | d + 1, .mk op n u s l, hr, ht => by
    rw [evF_mk]
    unfold stepF
    rcases stat_cases hr ht with ⟨rfl, rfl, hn⟩ | ⟨rfl, rfl⟩ | ⟨rfl, rfl⟩ | ⟨rfl, rfl⟩ | ⟨h1, h2⟩
    · rw [if_pos rfl]
      split
      · exact okF_of (i64_ok hn) (i64_ok (by unfold i64B; omega)) (by omega)
      · exact okF_of (i64_ok hn) (i64_ok (by unfold i64B; omega)) (by omega)
    · exact lookN_fit hv
    · exact lookF_fit he.l1 he.v
    · exact lookF_fit he.l2 he.r
    · rw [if_neg (by omega), if_neg (by omega), if_neg (by omega), if_neg (by omega)]
      have ih : ∀ k, k < l.length → (nth (l.map (evF lets en vs)) k).fit := fun k hk => by
        rw [nth_map2 hk]
        exact evF_fit he hv d _ (h2 _ (nth_mem hk)).1 (h2 _ (nth_mem hk)).2
      have i0 := ih 0 (by omega)
      cases h0 : nth (l.map (evF lets en vs)) 0 with
      | err e => rw [h0] at i0; exact i0
      | ok a =>
        rw [h0] at i0
        dsimp only
        split
        · exact one01_ok _
        · split
          · split
            · exact ih 2 (by omega)
            · exact ih 1 (by omega)
          · split
            · exact one01_ok _
            · have i1 := ih 1 (by omega)
              cases h1 : nth (l.map (evF lets en vs)) 1 with
              | err e => rw [h1] at i1; exact i1
              | ok b => rw [h1] at i1; exact binF_fit op i0 i1
/-- definitions that are right -/
def LetsOk (lets : List Let) : Prop := lets.length ≤ 20 ∧ ∀ y ∈ lets, statF y.body = true ∧ OkE y.body
theorem statF_yes {e : Exp} (h : statF e = true) : rightF 12 e = true ∧ tempF e = false := by
  unfold statF at h
  simpa using h
theorem tabF_fit {lets : List Let} {en : EnvQ} (he : en.Ok) (hl : LetsOk lets) : ∀ n, n ≤ lets.length → ∀ R ∈ tabF lets en n, R.fit
  | 0, _, R, hR => by rw [tabF] at hR; cases hR
  | n + 1, hn, R, hR => by
    rw [tabF] at hR
    rcases List.mem_append.1 hR with h | h
    · exact tabF_fit he hl n (by omega) R h
    · obtain rfl := List.mem_singleton.1 h
      have := statF_yes (hl.2 _ (nth_mem (show n < lets.length by omega))).1
      exact evF_fit he (tabF_fit he hl n (by omega)) 12 _ this.1 this.2
end
end Go.Proofs.YtjedkgogjehigaaGreat
end
section
set_option linter.unusedVariables false
set_option linter.unusedSimpArgs false
set_option maxHeartbeats 8000000
set_option linter.unusedSectionVars false
namespace Go.Proofs.YtjedkgogjehigaaGreat
open Lf Go
attribute [local irreducible] PureOp EffOp Ev RG W Then InBlock Lf.Fin nth App InitE Pick SubE EvL EvD EvP EvR ResL Lf.Lex SubR SubBR RA RAll EvC FinO FinM ResM ResD FinS val pw digs trimL
section
def pairF (op a b : Int) : Int :=
  if op = 4 ∨ op = 5 ∨ op = 8 ∨ op = 9 then (if a = b ∧ a ≠ 4 then a else -1)
  else if op = 6 then (if a = 0 ∧ b ≠ 4 then b else if b = 0 ∧ a ≠ 4 then a else if (a = 2 ∧ b = 1) ∨ (a = 1 ∧ b = 2) then 1 else -1)
  else if op = 7 then (if b = 0 ∧ a ≠ 4 then a else if a = b ∧ a ≠ 4 then 0 else -1)
  else if op = 10 then (if a = b ∧ a ≠ 4 then 4 else -1)
  else if op = 11 then (if a = b then 4 else -1)
  else -1
theorem pair_ok (op a b : Int) : ACalls Tryz.prog 119 [cI op, cI a, cI b] (.pv (cI (pairF op a b))) := by
  generalize hr : pairF op a b = r
  unfold pairF at hr
  refine ACalls.of_W (qs := [cI r]) [6] 76 Tryz.func119 (by kernel_rfl) rfl rfl rfl fun G => ?_
  refine W.initA (hw := ?_)
  repeat' (first | ((first | apply U_ | (apply Ug_; exact rfl; exact rfl) | (apply Ugq_; exact rfl; exact rfl)); (first | exact QX.B TYok); exact rfl) | refine SC ?_ | (apply S_isnil TYok; exact rfl; exact rfl; exact rfl; exact Ev.auto; intro bn hnil) | (apply RG.gT; exact rfl; exact rfl; (first | assumption | decide)) | (apply RG.gF; exact rfl; exact rfl; (first | assumption | decide | (rw [ne_eq, Bool.not_eq_true]; assumption) | (rw [ne_eq, Bool.not_eq_false]; assumption)); exact rfl) | (refine W.condA (ht := fun hb => ?_) (hf := fun hb => ?_) <;> (try simp at hb) <;> (try (exfalso; omega))))
  all_goals first
    | (refine Fin.ret (ResL.cons rfl rfl (PSub.of_eq ?_) ResL.nil); congr 2; split at hr <;> (repeat' split at hr) <;> omega)
    | trace_state
theorem indexX_ok (l : List Int) (x : Int) (hl : l.length ≤ 9223372036854775807) : ACalls Tryz.prog 150 [slJ l, cI x] (.pv (cI (fidx (fun y => decide (x = y)) l))) := by
  refine ACalls.of_W (qs := [cI (fidx (fun y => decide (x = y)) l)]) [4] 19 Tryz.func150 (by kernel_rfl) rfl rfl rfl fun G => ?_
  refine W.initA (hw := ?_)
  repeat' (first | ((first | apply U_); (first | exact QX.B TYok | exact QX.Len TYok | exact QX.Idx TYok); exact rfl) | refine SC ?_ | (apply S_isnil TYok; exact rfl; exact rfl; exact rfl; exact Ev.auto; intro bn hnil) | (refine W.condA (ht := fun hb => ?_) (hf := fun hb => ?_) <;> (try simp at hb) <;> (try (exfalso; omega))))
  apply W.loopP (σ := Nat) 19 [0, 1, 7] (fun k => k ≤ l.length ∧ ((l.take k).any fun y => decide (x = y)) = false) (fun k => [(8, vI k)]) (fun _ => []) (fun k => l.length - k) (0)
  case hp => repeat (first | exact Pick.nil | apply Pick.cons rfl)
  case h0 =>
    refine ⟨by simp, ?_⟩
    exact Le.auto
  case round =>
    rintro k ⟨h1, h2⟩
    apply W.norm (by repeat (first | exact App.nil | apply App.cons))
    by_cases hk : k < l.length
    · repeat' (first | ((first | apply U_); (first | exact QX.B TYok | exact QX.Len TYok | exact QX.Idx TYok); exact rfl) | refine SC ?_ | (apply S_isnil TYok; exact rfl; exact rfl; exact rfl; exact Ev.auto; intro bn hnil) | (refine W.condA (ht := fun hb => ?_) (hf := fun hb => ?_) <;> (try simp at hb) <;> (try (exfalso; omega))))
      all_goals first
        | (rw [fidx_hit hk h2 (decide_eq_true hb)]; exact Fin.ret ResL.auto)
        | (refine ⟨k + 1, ⟨by omega, ?_⟩, ?_, ?_⟩
           · rw [any_take hk, h2]; exact decide_eq_false hb
           · exact Le.auto
           · (try simp only); omega)
        | trace_state
    · obtain rfl : k = l.length := by omega
      rw [List.take_length] at h2
      repeat' (first | ((first | apply U_); (first | exact QX.B TYok | exact QX.Len TYok | exact QX.Idx TYok); exact rfl) | refine SC ?_ | (apply S_isnil TYok; exact rfl; exact rfl; exact rfl; exact Ev.auto; intro bn hnil) | (refine W.condA (ht := fun hb => ?_) (hf := fun hb => ?_) <;> (try simp at hb) <;> (try (exfalso; omega))))
      rw [fidx_miss h2]
      exact Fin.ret ResL.auto
theorem containsX_ok (l : List Int) (x : Int) (hl : l.length ≤ 9223372036854775807) : ACalls Tryz.prog 144 [slJ l, cI x] (.pv (cB (l.any fun y => decide (x = y)))) := by
  refine ACalls.of_W (qs := [cB (l.any fun y => decide (x = y))]) [4] 9 Tryz.func144 (by kernel_rfl) rfl rfl rfl fun G => ?_
  refine W.initA (hw := ?_)
  repeat' (first | ((first | apply U_); (first | exact QX.B TYok | exact QCl (indexX_ok l x hl)); exact rfl) | refine SC ?_ | (refine W.condA (ht := fun hb => ?_) (hf := fun hb => ?_) <;> (try simp at hb) <;> (try (exfalso; omega))))
  rw [← fidx_nn]
  exact Fin.ret ResL.auto
def logicF (op : Int) : Bool := ([12, 13, 14, 16, 17, 18] : List Int).any fun y => decide (op = y)
theorem logic_ok (op : Int) : ACalls Tryz.prog 118 [cI op] (.pv (cB (logicF op))) := by
  have h := containsX_ok [12, 13, 14, 16, 17, 18] op (by simp)
  unfold logicF
  generalize (([12, 13, 14, 16, 17, 18] : List Int).any fun y => decide (op = y)) = b at *
  refine ACalls.of_W (qs := [cB b]) [2] 6 Tryz.func118 (by kernel_rfl) rfl rfl rfl fun G => ?_
  refine W.initA (hw := ?_)
  repeat' (first | ((first | apply U_); (first | (apply Q_litD TYok; apply EvR.cons Ev.auto; (repeat (first | exact EvR.nil | apply EvR.cons Ev.auto)); exact rfl; exact rfl; exact rfl; exact rfl; exact rfl; exact rfl) | exact QX.B TYok | exact QCd (h)); exact rfl) | refine SX.Lit TYok (h := ?_) | refine SC ?_ | (refine W.condA (ht := fun hb => ?_) (hf := fun hb => ?_) <;> (try simp at hb) <;> (try (exfalso; omega))))
  all_goals exact Fin.ret ResL.auto
theorem odd_ok (u : Int) : ACalls Tryz.prog 117 [cI u] (.pv (cB (!decide (u = 4)))) := by
  refine ACalls.of_W (qs := [cB (!decide (u = 4))]) [2] 5 Tryz.func117 (by kernel_rfl) rfl rfl rfl fun G => ?_
  refine W.initA (hw := ?_)
  repeat' (first | ((first | apply U_); (first | exact QX.B TYok); exact rfl) | refine SC ?_ | (refine W.condA (ht := fun hb => ?_) (hf := fun hb => ?_) <;> (try simp at hb) <;> (try (exfalso; omega))))
  all_goals exact Fin.ret ResL.auto
/-- the unit of an operation with arguments of such units; there are as1 many as1 it wants -/
def joinF (op : Int) (l : List Int) : Int :=
  if logicF op = true then (if (l.any fun u => !decide (u = 4)) = true then -1 else 4)
  else if op = 15 then (if nth l 0 = 4 ∧ nth l 1 = nth l 2 then nth l 1 else -1)
  else if l.length = 2 then pairF op (nth l 0) (nth l 1) else -1
theorem joined_ok (op : Int) (l : List Int) (hl : l.length ≤ 3) (h3 : op = 15 → l.length = 3) : ACalls Tryz.prog 86 [cI op, slJ l] (.pv (cI (joinF op l))) := by
  have h1 := logic_ok op
  have h2 := containsI_ok l 117 [] (fun u => !decide (u = 4)) (by omega) (fun x _ => odd_ok x)
  have h4 := pair_ok op (nth l 0) (nth l 1)
  generalize hr : joinF op l = r
  unfold joinF at hr
  generalize logicF op = b1 at *
  generalize (l.any fun u => !decide (u = 4)) = b2 at *
  generalize pairF op (nth l 0) (nth l 1) = q at *
  refine ACalls.of_W (qs := [cI r]) [4] 44 Tryz.func86 (by kernel_rfl) rfl rfl rfl fun G => ?_
  refine W.initA (hw := ?_)
  repeat' (first | ((first | apply U_ | (apply Ug_; exact rfl; exact rfl) | (apply Ugq_; exact rfl; exact rfl) | apply Lex.u | (apply Lex.g; exact rfl; exact rfl) | (apply Lex.gq; exact rfl; exact rfl)); (first | exact QX.B TYok | exact QX.Len TYok | exact QX.Idx TYok | exact QCd (h1) | exact QCd (h2) | exact QCd (h4)); exact rfl) | refine SC ?_ | (apply S_isnil TYok; exact rfl; exact rfl; exact rfl; exact Ev.auto; intro bn hnil) | (apply RG.gT; exact rfl; exact rfl; (first | assumption | decide)) | (apply RG.gF; exact rfl; exact rfl; (first | assumption | decide | (rw [ne_eq, Bool.not_eq_true]; assumption) | (rw [ne_eq, Bool.not_eq_false]; assumption)); exact rfl) | (apply W.draw2 (id := 6) [0, 1, 3, 7, 15, 31, 63, 127, 31, 287, 799, 2047, 4095] [[1], [16], [17], [18], [19], [1, 20], [21, 20], [22, 20], [1, 20], [24, 20], [25, 20], [23, 26, 20], [20, 27]] 13 [(16, 2), (17, 65536), (18, 131072), (19, 262144), (20, 524288), (21, 1048578), (22, 3145728), (23, 5242880), (24, 1048578), (25, 17825792), (26, 34603008), (27, 76546048), (28, 135266304)] mixed (by kernel_rfl) rfl rfl) | (apply W.draw2 (id := 9) [0, 0, 2, 6, 0, 16, 48, 127, 255] [[0], [1], [37], [38], [1], [40], [41], [36, 39, 42], [43]] 9 [(36, 1), (37, 2), (38, 137438953472), (39, 274877906944), (40, 2), (41, 1099511627776), (42, 2199023255552), (43, 5016521801728), (4, 8796093022208)] mixed (by kernel_rfl) rfl rfl) | (refine W.condA (ht := fun hb => ?_) (hf := fun hb => ?_) <;> (try simp at hb) <;> (try (exfalso; omega))))
  all_goals first
    | (refine Fin.ret (ResL.cons rfl rfl (PSub.of_eq ?_) ResL.nil); congr 2; rw [← hr]; clear hr; (repeat' split) <;> first | rfl | (exfalso; omega) | (exfalso; simp_all; done) | (exfalso; simp_all; omega))
    | trace_state
end
end Go.Proofs.YtjedkgogjehigaaGreat
end
section
set_option linter.unusedVariables false
set_option linter.unusedSimpArgs false
namespace Lf
open Go Go.RowKit
abbrev MNode := List Bool × List (Nat × Nat)
section
variable {P : Program} {G : Ghost} {ops : Array Oper} {Ss : List St} {Q : St → Prop}
theorem count_setM : ∀ {L : List Bool} {i : Nat}, L.getD i true = false → (L.set i true).count false + 1 = L.count false
  | [], i, h => by simp at h
  | b :: L, 0, h => by simp at h; subst h; simp
  | b :: L, i + 1, h => by
    have := count_setM (L := L) (i := i) (by simpa using h)
    simp only [List.set_cons_succ, List.count_cons]; omega
end
theorem Le.get {A B : St} (hn : B.n = A.n) (he : ∀ t q v, lk B.env t = some (q, v) → lk A.env t = some (q, v) ∧ NameOK A.blks B.blks v) (hb : ∀ n C, lk B.blks n = some C → lk A.blks n = some C) : Le A B := fun G Φ β a w hs => by
  refine ⟨Φ, β, Φ.le_refl, hs.kept, hs.fits, hs.old, by rw [hn]; exact hs.siz, hs.dfr, fun t q v h => ?_, fun n C b cap h1 h2 => hs.blk n C b cap (hb _ _ h1) h2, fun n C h1 h2 => hs.vir n C (hb _ _ h1) h2, fun n n' C C' b c c' h1 h2 h3 h4 => hs.inj n n' C C' b c c' (hb _ _ h1) (hb _ _ h2) h3 h4⟩
  obtain ⟨h1, h2⟩ := he t q v h
  refine ⟨fun hq => ?_, (hs.env t q v h1).2⟩
  have h3 := (hs.env t q v h1).1 hq
  cases v with
  | pv p => exact h3
  | tup l => exact h3
  | top => trivial
  | addr n i off =>
    obtain ⟨b, cap, C, g1, g2, g3⟩ := h3
    exact ⟨b, cap, C, g1, by rw [show lk B.blks n = lk A.blks n from h2]; exact g2, g3⟩
  | slc n =>
    obtain ⟨C, g2, g3⟩ := h3
    exact ⟨C, by rw [show lk B.blks n = lk A.blks n from h2]; exact g2, g3⟩
  | mp n =>
    obtain ⟨b, cap, C, g1, g2, g3⟩ := h3
    exact ⟨b, cap, C, g1, by rw [show lk B.blks n = lk A.blks n from h2]; exact g2, g3⟩
  | mpn n bb =>
    obtain ⟨b, cap, C, g1, g2, g3⟩ := h3
    exact ⟨b, cap, C, g1, by rw [show lk B.blks n = lk A.blks n from h2]; exact g2, g3⟩
  | itr d n =>
    obtain ⟨b, cap, C, M, c, g1, g2, g3, g4, g5, g6⟩ := h3
    exact ⟨b, cap, C, M, c, g1, by rw [h2.1]; exact g2, g3, g4, by rw [h2.2]; exact g5, g6⟩
  | pin n b0 c0 f =>
    obtain ⟨C, g1, g2, g3⟩ := h3
    exact ⟨C, g1, by rw [show lk B.blks n = lk A.blks n from h2]; exact g2, g3⟩
def SubEK (A : St) (bl' : List (Nat × Blk)) : List Nat → List (Nat × (Prop × AV)) → Prop
  | _, [] => True
  | seen, (t, (q, v)) :: r => (t ∈ seen ∨ (lk A.env t = some (q, v) ∧ NameOK A.blks bl' v)) ∧ SubEK A bl' (t :: seen) r
def SubBK (A : St) : List Nat → List (Nat × Blk) → Prop
  | _, [] => True
  | seen, (n, B) :: r => (n ∈ seen ∨ lk A.blks n = some B) ∧ SubBK A (n :: seen) r
theorem SubEK.get {A : St} {bl' : List (Nat × Blk)} : ∀ {env : List (Nat × (Prop × AV))} {seen : List Nat}, SubEK A bl' seen env → ∀ t q v, t ∉ seen → lk env t = some (q, v) → lk A.env t = some (q, v) ∧ NameOK A.blks bl' v
  | [], _, _, t, q, v, _, h => by simp [lk] at h
  | (s, (q0, v0)) :: r, seen, hs, t, q, v, hns, h => by
    rw [lk_cons] at h
    split at h
    · rename_i e; subst e
      simp only [Option.some.injEq, Prod.mk.injEq] at h
      obtain ⟨rfl, rfl⟩ := h
      rcases hs.1 with h1 | h1
      · exact absurd h1 hns
      · exact h1
    · rename_i e
      exact SubEK.get hs.2 t q v (fun hm => (List.mem_cons.1 hm).elim (fun q => e q.symm) hns) h
theorem SubBK.get {A : St} : ∀ {bl : List (Nat × Blk)} {seen : List Nat}, SubBK A seen bl → ∀ n B, n ∉ seen → lk bl n = some B → lk A.blks n = some B
  | [], _, _, n, B, _, h => by simp [lk] at h
  | (m, B0) :: r, seen, hs, n, B, hns, h => by
    rw [lk_cons] at h
    split at h
    · rename_i e; subst e
      obtain rfl := Option.some.inj h
      rcases hs.1 with h1 | h1
      · exact absurd h1 hns
      · exact h1
    · rename_i e
      exact SubBK.get hs.2 n B (fun hm => (List.mem_cons.1 hm).elim (fun q => e q.symm) hns) h
theorem Le.st {A : St} {n : Nat} {env : List (Nat × (Prop × AV))} {bl : List (Nat × Blk)} (hn : n = A.n) (he : SubEK A bl [] env) (hb : SubBK A [] bl) : Le A (St.mk n env bl) :=
  Le.get (B := St.mk n env bl) hn (fun t q v h => he.get t q v (by simp) h) (fun n B h => hb.get n B (by simp) h)
theorem SubEK.nil {A : St} {bl : List (Nat × Blk)} {seen : List Nat} : SubEK A bl seen [] := trivial
theorem SubEK.one {A : St} {bl : List (Nat × Blk)} {seen : List Nat} {t : Nat} {q : Prop} {v : AV} {r : List (Nat × (Prop × AV))} (h : lk A.env t = some (q, v)) (hn : NameOK A.blks bl v) (hr : SubEK A bl (t :: seen) r) : SubEK A bl seen ((t, (q, v)) :: r) := ⟨.inr ⟨h, hn⟩, hr⟩
theorem SubEK.skip {A : St} {bl : List (Nat × Blk)} {seen : List Nat} {t : Nat} {e : Prop × AV} {r : List (Nat × (Prop × AV))} (h : seen.any (Nat.beq t) = true) (hr : SubEK A bl (t :: seen) r) : SubEK A bl seen ((t, e) :: r) := ⟨.inl (by
  obtain ⟨x, hx, he⟩ := List.any_eq_true.1 h
  rw [Nat.eq_of_beq_eq_true he]; exact hx), hr⟩
theorem SubBK.nil {A : St} {seen : List Nat} : SubBK A seen [] := trivial
theorem SubBK.one {A : St} {seen : List Nat} {n : Nat} {B : Blk} {r : List (Nat × Blk)} (h : lk A.blks n = some B) (hr : SubBK A (n :: seen) r) : SubBK A seen ((n, B) :: r) := ⟨.inr h, hr⟩
theorem SubBK.skip {A : St} {seen : List Nat} {n : Nat} {B : Blk} {r : List (Nat × Blk)} (h : seen.any (Nat.beq n) = true) (hr : SubBK A (n :: seen) r) : SubBK A seen ((n, B) :: r) := ⟨.inl (by
  obtain ⟨x, hx, he⟩ := List.any_eq_true.1 h
  rw [Nat.eq_of_beq_eq_true he]; exact hx), hr⟩
attribute [irreducible] SubEK SubBK
end Lf
end
section
set_option linter.unusedVariables false
set_option linter.unusedSimpArgs false
set_option linter.unusedSectionVars false
namespace Lf
open Go Go.RowKit
section
/-- what is known of a panic: how its value reads, and a state that fits -/
structure PK where
  c : Cell
  q : St → Prop
abbrev PK.any (c : Cell) : PK := ⟨c, fun _ => True⟩
variable {P : Program} {G : Ghost} {A : St} {c0 : PK} {Q : Exit → St → Prop}
/-- the exit by a panic with an interface value that reads so -/
def PanX (G : Ghost) (c0 : PK) (Φ : Frz) (e : Exit) (a : Act) (w : World) : Prop :=
  ∃ v Φ', e = .panic [{ v, recovered := false }] ∧ Rel Φ' v c0.c ∧ Φ.le Φ' ∧ ∃ β' A', c0.q A' ∧ Sat G Φ' β' A' a w
theorem PanX.mono {Φ Φ0 : Frz} {e : Exit} {a : Act} {w : World} (hl : Φ0.le Φ) (h : PanX G c0 Φ e a w) : PanX G c0 Φ0 e a w :=
  let ⟨v, Φ', h1, h2, h3, h4⟩ := h
  ⟨v, Φ', h1, h2, Frz.le_trans hl h3, h4⟩
theorem Sat.none {Φ : Frz} {β : Own} {a a' : Act} {w : World} (hs : Sat G Φ β A a w) (hd : a'.defers = a.defers) : Sat G Φ β ⟨0, [], []⟩ a' w :=
  ⟨hs.kept, hs.fits, hs.old, Nat.zero_le _, hd.trans hs.dfr, fun t q v h => by simp [lk] at h, fun n B b cap h => by simp [lk] at h, fun n B h => by simp [lk] at h, fun n n' B B' b c c' h => by simp [lk] at h⟩
/-- THE JUDGEMENT of code that may panic -/
def WP (P : Program) (G : Ghost) (c0 : PK) (c : Code) (Q : Exit → St → Prop) (A : St) : Prop :=
  ∀ Φ β a w, Sat G Φ β A a w → c.wp P (fun e a' w' => (∃ A' Φ' β', Q e A' ∧ Sat G Φ' β' A' a' w' ∧ Φ.le Φ') ∨ PanX G c0 Φ e a' w') a w
theorem WP.of_W {c : Code} (h : W P G c Q A) : WP P G c0 c Q A := fun Φ β a w hs => wp_mono (h Φ β a w hs) fun _ _ _ h => .inl h
theorem WP.mono {c : Code} {Q' : Exit → St → Prop} (h : WP P G c0 c Q A) (hq : ∀ e A, Q e A → Q' e A) : WP P G c0 c Q' A := fun Φ β a w hs =>
  wp_mono (h Φ β a w hs) fun _ _ _ h => h.elim (fun ⟨A', Φ', β', q, r⟩ => .inl ⟨A', Φ', β', hq _ _ q, r⟩) .inr
theorem WP.weaken {c : Code} {B : St} (hl : Le A B) (h : WP P G c0 c Q B) : WP P G c0 c Q A := fun Φ β a w hs =>
  let ⟨Φ1, β', hle, hs'⟩ := hl G Φ β a w hs
  wp_mono (h Φ1 β' a w hs') fun _ _ _ h => h.elim (fun ⟨A', Φ', β', q, r, l⟩ => .inl ⟨A', Φ', β', q, r, Frz.le_trans hle l⟩) fun hp => .inr (hp.mono hle)
theorem WP.seq {x y : Code} (h : WP P G c0 x (Then (WP P G c0 y Q) Q) A) : WP P G c0 (.seq x y) Q A := fun Φ β a w hs =>
  wp_seq (wp_mono (h Φ β a w hs) fun e a1 w1 hh => by
    rcases hh with ⟨A1, Φ1, β1, q, s, l⟩ | hp
    · cases e with
      | normal =>
        refine wp_mono (q Φ1 β1 a1 w1 s) fun e2 a2 w2 hh2 => ?_
        rcases hh2 with ⟨A2, Φ2, β2, q2, s2, l2⟩ | hp
        · exact .inl ⟨A2, Φ2, β2, q2, s2, Frz.le_trans l l2⟩
        · exact .inr (hp.mono l)
      | exit id => exact .inl ⟨A1, Φ1, β1, q, s, l⟩
      | goto id => exact .inl ⟨A1, Φ1, β1, q, s, l⟩
      | ret => exact .inl ⟨A1, Φ1, β1, q, s, l⟩
      | panic c => exact .inl ⟨A1, Φ1, β1, q, s, l⟩
      | outgrown => exact .inl ⟨A1, Φ1, β1, q, s, l⟩
    · obtain ⟨v, Φ', rfl, hr⟩ := hp
      exact .inr ⟨v, Φ', rfl, hr⟩)
theorem WP.block {id : Nat} {c : Code} (h : WP P G c0 c (InBlock id Q) A) : WP P G c0 (.block id c) Q A := fun Φ β a w hs =>
  wp_block (wp_mono (h Φ β a w hs) fun e a1 w1 hh => by
    rcases hh with ⟨A1, Φ1, β1, q, s, l⟩ | hp
    · cases e with
      | exit i =>
        simp only [Exit.inBlock]
        simp only [InBlock] at q
        split <;> rename_i hi
        · rw [if_pos hi] at q; exact .inl ⟨A1, Φ1, β1, q, s, l⟩
        · rw [if_neg hi] at q; exact .inl ⟨A1, Φ1, β1, q, s, l⟩
      | normal => exact .inl ⟨A1, Φ1, β1, q, s, l⟩
      | goto id => exact .inl ⟨A1, Φ1, β1, q, s, l⟩
      | ret => exact .inl ⟨A1, Φ1, β1, q, s, l⟩
      | panic c => exact .inl ⟨A1, Φ1, β1, q, s, l⟩
      | outgrown => exact .inl ⟨A1, Φ1, β1, q, s, l⟩
    · obtain ⟨v, Φ', rfl, hr⟩ := hp
      exact .inr ⟨v, Φ', rfl, hr⟩)
theorem WP.cond {c : Operand} {x y : Code} {b : Bool} (hc : Ev A True c (.pv (.one (.bool b)))) (ht : b = true → WP P G c0 x Q A) (hf : b = false → WP P G c0 y Q A) :
    WP P G c0 (.cond c x y) Q A := fun Φ β a w hs =>
  wp_cond_split (t := b) (AVRel.bool (hs.ev hc trivial)) (fun h => ht h Φ β a w hs) (fun h => hf h Φ β a w hs)
theorem WP.loop {σ : Type _} {c : Code} (I : σ → St) (μ : σ → Nat) (s0 : σ) (h0 : Le A (I s0))
    (round : ∀ s, WP P G c0 c (Then (fun A' => ∃ s', Le A' (I s') ∧ μ s' < μ s) Q) (I s)) : WP P G c0 (.loop c) Q A := by
  intro Φ β a w hs b k cs
  obtain ⟨Φ0, β0, hle0, hs0⟩ := h0 G Φ β a w hs
  have key : ∀ (n : Nat) (s : σ), μ s = n → ∀ Φ β a w, Sat G Φ β (I s) a w →
      ∃ e a' w', ((∃ A' Φ' β', Q e A' ∧ Sat G Φ' β' A' a' w' ∧ Φ.le Φ') ∨ PanX G c0 Φ e a' w') ∧ Arrives P (lone (b.at a (.code c :: .inLoop c :: k)) cs w) b k cs e a' w' := by
    intro n
    induction n using Nat.strongRecOn with
    | _ n ih =>
      intro s hn Φ β a w hs
      obtain ⟨e, a1, w1, hh, harr⟩ := round s Φ β a w hs b (.inLoop c :: k) cs
      rcases hh with ⟨A1, Φ1, β1, q, s1, l1⟩ | hp
      · cases e with
        | normal =>
          obtain ⟨s', hle, hlt⟩ := q
          obtain ⟨Φ2, β2, hle2, hs2⟩ := hle G Φ1 β1 a1 w1 s1
          obtain ⟨e2, a2, w2, hh2, harr2⟩ := ih (μ s') (hn ▸ hlt) s' rfl Φ2 β2 a1 w1 hs2
          refine ⟨e2, a2, w2, ?_, .of_steps (Steps.trans harr (.one step_inLoop)) harr2⟩
          rcases hh2 with ⟨A2, Φ3, β2', q2, s2, l2⟩ | hp
          · exact .inl ⟨A2, Φ3, β2', q2, s2, Frz.le_trans l1 (Frz.le_trans hle2 l2)⟩
          · exact .inr (hp.mono (Frz.le_trans l1 hle2))
        | exit id => exact ⟨_, a1, w1, .inl ⟨A1, Φ1, β1, q, s1, l1⟩, .pass (x := .inLoop c) rfl (fun _ _ => .inl (by simp)) harr⟩
        | goto l => exact ⟨_, a1, w1, .inl ⟨A1, Φ1, β1, q, s1, l1⟩, .pass (x := .inLoop c) rfl (fun _ _ => .inl (by simp)) harr⟩
        | ret => exact ⟨_, a1, w1, .inl ⟨A1, Φ1, β1, q, s1, l1⟩, .pass (x := .inLoop c) rfl (fun _ _ => .inl (by simp)) harr⟩
        | panic ch => exact ⟨_, a1, w1, .inl ⟨A1, Φ1, β1, q, s1, l1⟩, .pass (x := .inLoop c) rfl (fun _ _ => .inl (by simp)) harr⟩
        | outgrown => exact ⟨_, a1, w1, .inl ⟨A1, Φ1, β1, q, s1, l1⟩, .pass (x := .inLoop c) rfl (fun _ _ => .inl (by simp)) harr⟩
      · obtain ⟨v, Φ', rfl, hr⟩ := hp
        exact ⟨_, a1, w1, .inr ⟨v, Φ', rfl, hr⟩, .pass (x := .inLoop c) rfl (fun _ _ => .inl (by simp)) harr⟩
  obtain ⟨e, a', w', hh, harr⟩ := key _ s0 rfl Φ0 β0 a w hs0
  refine ⟨e, a', w', ?_, .of_steps (.one step_loop) harr⟩
  rcases hh with ⟨A', Φ', β', q, r, l⟩ | hp
  · exact .inl ⟨A', Φ', β', q, r, Frz.le_trans hle0 l⟩
  · exact .inr (hp.mono hle0)
theorem WP.loopP {c : Code} {σ : Type _} (n : Nat) (keep : List Nat) (inv : σ → Prop) (f : σ → List (Nat × (Prop × AV))) (bl : σ → List (Nat × Blk)) (μ : σ → Nat) (s0 : σ) {E : List (Nat × (Prop × AV))} (hp : Pick A keep E)
    (h0 : inv s0 ∧ Le A (mkSt n (f s0) E (bl s0))) (round : ∀ s, inv s → WP P G c0 c (Then (fun A' => ∃ s', inv s' ∧ Le A' (mkSt n (f s') E (bl s')) ∧ μ s' < μ s) Q) (mkSt n (f s) E (bl s))) : WP P G c0 (.loop c) Q A := by
  refine WP.loop (σ := { s : σ // inv s }) (fun s => mkSt n (f s.1) E (bl s.1)) (fun s => μ s.1) ⟨s0, h0.1⟩ h0.2 fun s => ?_
  refine WP.mono (round s.1 s.2) fun e A' h => ?_
  cases e with
  | normal => obtain ⟨s', h1, h2, h3⟩ := h; exact ⟨⟨s', h1⟩, h2, h3⟩
  | exit id => exact h
  | goto id => exact h
  | ret => exact h
  | panic c => exact h
  | outgrown => exact h
theorem WP.norm {c : Code} {n : Nat} {f E env : List (Nat × (Prop × AV))} {bl : List (Nat × Blk)} (h : App f E env) (hw : WP P G c0 c Q (St.mk n env bl)) : WP P G c0 c Q (mkSt n f E bl) := by
  unfold App at h; subst h; exact hw
theorem WP.init {c : Code} {n : Nat} {args : List PV} {env : List (Nat × (Prop × AV))} (h : InitE args 0 env) (hw : WP P G c0 c Q (St.mk n env [])) : WP P G c0 c Q (St.init n args) := by
  unfold InitE at h; subst h; exact hw
theorem WP.condA {c : Operand} {x y : Code} {b : Bool} {Q : Exit → St → Prop} (hc : Ev A True c (.pv (.one (.bool b))) := by refine Ev.of rfl ?_; first | exact fun _ => ⟨⟩ | exact id | exact And.right | exact And.left | exact (·.1.2) | exact (·.1.1) | exact (·.1.1.1) | exact (·.1.1.2) | exact fun _ => by assumption | exact fun _ => rfl) (ht : b = true → WP P G c0 x Q A) (hf : b = false → WP P G c0 y Q A) : WP P G c0 (.cond c x y) Q A := WP.cond hc ht hf
theorem WP.initA {Q : Exit → St → Prop} {c : Code} {n : Nat} {args : List PV} {env : List (Nat × (Prop × AV))} (h : InitE args 0 env := by first | ((repeat (first | exact InitE.nil | apply InitE.c0 | apply InitE.c1 | apply InitE.c2 | apply InitE.c3 | apply InitE.c4 | apply InitE.c5 | apply InitE.c6 | apply InitE.c7 | apply InitE.c8 | apply InitE.c9 | apply InitE.c10 | apply InitE.c11)); done) | fail) (hw : WP P G c0 c Q (St.mk n env [])) : WP P G c0 c Q (St.init n args) := WP.init h hw
/-- an operation that leaves by a panic -/
def PanOp (P : Program) (G : Ghost) (c0 : PK) (A : St) (o : Oper) : Prop :=
  ∀ Φ β a w, Sat G Φ β A a w → o.wp P a w (fun _ _ => False) (fun e a' w' => PanX G c0 Φ e a' w')
theorem wp_outs {o : Oper} {a : Act} {w : World} {K : Act → World → Prop} {Q1 Q2 : Exit → Act → World → Prop} (h : o.wp P a w (fun _ _ => False) Q1) (hq : ∀ e a w, Q1 e a w → Q2 e a w) : o.wp P a w K Q2 :=
  Oper.wp_mono' h (fun _ _ h => h.elim) hq
theorem wpList_app {ops : Array Oper} {Q' : Exit → Act → World → Prop} {suf : List Oper} : ∀ (pre : List Oper) (a : Act) (w : World),
    wpList P ops (fun e a w => match e with | .normal => wpList P ops Q' suf a w | e => Q' e a w) pre a w → wpList P ops Q' (pre ++ suf) a w
  | [], a, w, h => h
  | o :: pre, a, w, h => by
    unfold wpList at h
    rw [List.cons_append]
    unfold wpList
    split
    · rename_i hw
      rw [if_pos hw] at h
      rcases h with h | ⟨h1, a0, w0, h2⟩
      · refine .inl ?_
        unfold Oper.wp at *
        revert h
        generalize (execOp a.eval o).run P w = r
        intro h
        cases r with
        | ok n w' =>
          cases n <;> simp only [Oper.upon] at h ⊢ <;>
            first
              | exact wpList_app pre _ _ h
              | exact Calls.mono h (fun e w'' he => by
                  cases e <;> first
                    | exact wpList_app pre _ _ he
                    | exact he
                    | (obtain ⟨a0, w0, h0⟩ := he; exact ⟨a0, w0, h0⟩))
              | exact Rows.mono h (fun _ _ he => wpList_app pre _ _ he)
        | halt x w' => cases x <;> simp only [Oper.upon] at h ⊢ <;> exact h
      · exact .inr ⟨h1, a0, w0, h2⟩
    · rename_i hw
      rw [if_neg hw] at h
      exact wpList_app pre _ _ h
/-- a region whose last operation panics -/
theorem WP.regionP {id : Nat} {l pre suf : List Oper} {o : Oper} (hl : l = pre ++ o :: suf) (hg : o.guard = none) (h : RG P G l.toArray pre (fun A' => PanOp P G c0 A' o) A) : WP P G c0 (.region id l.toArray false) Q A := fun Φ β a w hs => by
  refine wp_region_lit ?_
  have key : wpList P l.toArray (fun e a' w' => (∃ A' Φ' β', Q e A' ∧ Sat G Φ' β' A' a' w' ∧ Φ.le Φ') ∨ PanX G c0 Φ e a' w') (pre ++ o :: suf) a w := by
    refine wpList_app pre a w (h Φ β a w hs _ fun A1 Φ1 β1 a1 w1 q s l1 => ?_)
    exact wpList_plain hg fun K hK => wp_outs (q Φ1 β1 a1 w1 s) fun e a2 w2 hp => .inr (hp.mono l1)
  have e : wpList P l.toArray (fun e a' w' => (∃ A' Φ' β', Q e A' ∧ Sat G Φ' β' A' a' w' ∧ Φ.le Φ') ∨ PanX G c0 Φ e a' w') l a w := by
    have : ∀ l2, l2 = l → wpList P l.toArray (fun e a' w' => (∃ A' Φ' β', Q e A' ∧ Sat G Φ' β' A' a' w' ∧ Φ.le Φ') ∨ PanX G c0 Φ e a' w') l2 a w → wpList P l.toArray (fun e a' w' => (∃ A' Φ' β', Q e A' ∧ Sat G Φ' β' A' a' w' ∧ Φ.le Φ') ∨ PanX G c0 Φ e a' w') l a w := fun l2 h2 h3 => h2 ▸ h3
    exact this _ hl.symm key
  exact e
theorem PanOp.panic {x : Operand} {ty : TypeId} {pos : String} {after : Array Edge} {gd : Option (Nat × Bool)} {dst : Option Nat} {t : Nat} {cs : List Cell} {q : St → Prop} (hx : Ev A True x (.pv (.one (.iface t cs)))) (hq : q A) : PanOp P G ⟨.iface t cs, q⟩ A ⟨dst, .panic x, ty, pos, after, gd⟩ := fun Φ β a w hs => by
  have h : Rel Φ (a.eval x) (.iface t cs) := hs.ev hx trivial
  obtain ⟨v, hv⟩ : ∃ v, a.eval x = .iface t v := by
    generalize a.eval x = u at h
    cases h with
    | iface1 t v c hv => exact ⟨_, rfl⟩
    | ifaceN t vs cs g h1 h2 h3 h4 => exact ⟨_, rfl⟩
  unfold Oper.wp
  have e : (execOp a.eval ⟨dst, .panic x, ty, pos, after, gd⟩).run P w = .halt (.panic (.iface t v)) w := by
    simp only [execOp, hv]; rfl
  rw [e]
  exact ⟨_, Φ, rfl, hv ▸ h, Φ.le_refl, β, A, hq, hs⟩
/-- a value of a struct type as1 an interface value -/
theorem Q_makeI {T : TT} {x : Operand} {p : Prop} {n0 : Nat} {env : List (Nat × (Prop × AV))} {bl : List (Nat × Blk)} {dst : Option Nat} {ty : TypeId} {pos : String} {after : Array Edge} {gd : Option (Nat × Bool)} {t : Nat} {ti : TI} {cs : List Cell} {fs : List (Nat × Nat)}
    (hT : TOK P T) (ht : T t = some ti) (hk : ti.kind = .struct fs) (hx : Ev (St.mk n0 env bl) p x (.pv (.agg cs))) (h2 : Nat.ble 2 cs.length = true) :
    PureOp P G (St.mk n0 env bl) ⟨dst, .makeInterface t x, ty, pos, after, gd⟩ p (.pv (.one (.iface t cs))) := PureOp.val fun Φ β a w hs hp => by
  obtain ⟨arr, hv, hr⟩ : PRel Φ (a.eval x) (.agg cs) := hs.ev hx hp
  obtain ⟨sfs, hu, _⟩ : ∃ fields, P.underlying t = some (.struct fields) ∧ fields.toList.map (fun f => (f.offset, f.type)) = fs := by
    have := (hT t ti ht).kind
    rw [hk] at this
    exact this
  refine ⟨.iface t (.agg arr), ?_, ?_⟩
  · rw [exec_val (m := Instr.makeInterface t (a.eval x)) (by simp only [execOp]) (v := .iface t (a.eval x)) (w' := w) ?_, hv]
    simp [Instr.makeInterface, run_underlying hu]
  · refine Rel.ifaceN t arr cs (fun j => arr.getD j undef) ?_ (Nat.le_of_ble_eq_true h2) (fun j c hj => ?_) (fun j c hj => ?_)
    · have := hr.length; simpa using this
    · obtain ⟨u, h1, _⟩ := hr.get hj
      have : arr[j]? = some u := by simpa using h1
      rw [this, Array.getD_eq_getD_getElem?, this]; rfl
    · obtain ⟨u, h1, h3⟩ := hr.get hj
      have : arr[j]? = some u := by simpa using h1
      rw [Array.getD_eq_getD_getElem?, this]; exact h3
structure PanCalls (P : Program) (f : FuncId) (args : List PV) (c : Cell) : Prop where
  fn : FnOK P f
  calls : ∀ Φ w vs, Fits Φ w → ArgsRel Φ vs args → Calls P f vs w (fun e w' => ∃ v Φ', e = .panicked [{ v, recovered := false }] ∧ Rel Φ' v c ∧ Φ.le Φ' ∧ (∀ b, b < w.heap.size → Φ' b = Φ b) ∧ Fits Φ' w' ∧ Below w.heap.size w w')
theorem PanCalls.of_WP {f : FuncId} {fn : Func} {c : Code} {args : List PV} {cc : Cell} (n : Nat) (hf : P.funcs[f]? = some fn) (hn : (fn.name == "runtime.NumGoroutine") = false) (hb : fn.body = some c)
    (hnt : fn.ntmps = n) (h : ∀ G, WP P G (PK.any cc) c (fun _ _ => False) (St.init n args)) : PanCalls P f args cc where
  fn := ⟨fn, hf, hn, by rw [hb]; rfl⟩
  calls := fun Φ w vs hfit harg => by
    subst hnt
    refine calls_of_wp hf hb (wp_mono (h _ Φ (fun _ => none) _ w (sat_init (f := f) rfl hfit harg)) fun e a' w' hh => ?_)
    rcases hh with ⟨_, _, _, hF, _⟩ | ⟨v, Φ', rfl, h1, h2, β', A', _, hs⟩
    · exact hF.elim
    · exact ⟨hs.dfr, v, Φ', rfl, h1, h2, fun b hb => hs.old b hb, hs.fits, ⟨hs.kept.os, hs.kept.tape, hs.kept.output, hs.kept.size, hs.kept.block⟩⟩
theorem PanOp.call {f : FuncId} {xs : List Operand} {ats : Array TypeId} {ps : List PV} {ty : TypeId} {pos : String} {after : Array Edge} {gd : Option (Nat × Bool)} {dst : Option Nat} {cc : Cell} {q : St → Prop} (hc : PanCalls P f ps cc) (hx : EvD A True xs ps) (hq0 : q A) :
    PanOp P G ⟨cc, q⟩ A ⟨dst, .call ⟨.value (.func f), xs.toArray, ats⟩, ty, pos, after, gd⟩ := fun Φ β a w hs => by
  unfold Oper.wp
  rw [call_run rfl hc.fn]
  refine Calls.mono (hc.calls Φ w _ hs.fits ⟨by simp [evd_len hx], fun j q hq => ?_⟩) ?_
  · obtain ⟨x, h1, h2⟩ := evd_args hs trivial hx j q hq
    exact ⟨a.eval x, by simp [h1], h2⟩
  · rintro e w' ⟨v, Φ', rfl, hv, hle, heq, hfit, hb⟩
    exact ⟨v, Φ', rfl, hv, hle, β, A, hq0, hs.below hle heq hfit hb⟩
/-- own slices among the arguments -/
theorem PanOp.calll {f : FuncId} {xs : List Operand} {ats : Array TypeId} {ps : List PV} {ty : TypeId} {pos : String} {after : Array Edge} {gd : Option (Nat × Bool)} {dst : Option Nat} {cc : Cell} (hc : PanCalls P f ps cc) (hx : EvL A True xs ps) :
    PanOp P G (PK.any cc) A ⟨dst, .call ⟨.value (.func f), xs.toArray, ats⟩, ty, pos, after, gd⟩ := fun Φ β a w hs => by
  unfold Oper.wp
  rw [call_run rfl hc.fn]
  refine Calls.mono (hc.calls (frzAll Φ β A.blks w) w _ hs.frz_fits ⟨by simp [evl_len hx], fun j q hq => ?_⟩) ?_
  · obtain ⟨x, h1, h2⟩ := evl_args hs trivial hx j q hq
    exact ⟨a.eval x, by simp [h1], h2⟩
  · rintro e w' ⟨v, Φ', rfl, hv, hle, heq, hfit, hb⟩
    refine ⟨v, Φ', rfl, hv, Frz.le_trans hs.frz_le hle, β, ⟨0, [], []⟩, trivial, hs.kept.below hb, hfit, fun b hk => ?_, Nat.zero_le _, hs.dfr, fun t q v h => by simp [lk] at h, fun n B b cap h => by simp [lk] at h, fun n B h => by simp [lk] at h, fun n n' B B' b c c' h => by simp [lk] at h⟩
    rw [heq b (Nat.lt_of_lt_of_le (G.lt b hk) hs.kept.size)]
    have hno : ¬ ownedBy β A.blks b := fun ⟨n, B, cap, h1, h2⟩ => (hs.blk n B b cap h1 h2).2.1 hk
    unfold frzAll
    rw [if_neg hno]
    exact hs.old b hk
section
variable {ops : Array Oper} {Ss : List St} {p : Nat}
def MGP (P : Program) (G : Ghost) (c0 : PK) (ops : Array Oper) (Ss : List St) (p : Nat) : List (Nat × Nat) → St → Prop
  | [], _ => True
  | (i, t) :: r, S => ((i = p ∧ ∃ o, ops[i]? = some o ∧ o.guard = none ∧ PanOp P G c0 S o) ∨ (i ≠ p ∧ ∃ o S', ops[i]? = some o ∧ Ss[t]? = some S' ∧ RG P G ops [o] (fun A' => Le A' S') S)) ∧ MGP P G c0 ops Ss p r S
def MNP (P : Program) (G : Ghost) (c0 : PK) (ops : Array Oper) (Ss : List St) (p : Nat) : List MNode → List St → Prop
  | (_, es) :: r, S :: Sr => MGP P G c0 ops Ss p es S ∧ MNP P G c0 ops Ss p r Sr
  | _, _ => True
theorem MGP.nil {S : St} : MGP P G c0 ops Ss p [] S := trivial
theorem MGP.cons {i t : Nat} {o : Oper} {S S' : St} {es : List (Nat × Nat)} (hi : Nat.beq i p = false) (ho : ops[i]? = some o) (hS : Ss[t]? = some S') (h : RG P G ops [o] (fun A' => Le A' S') S) (h' : MGP P G c0 ops Ss p es S) : MGP P G c0 ops Ss p ((i, t) :: es) S :=
  ⟨.inr ⟨fun e => (by subst e; rw [Nat.beq_refl] at hi; cases hi), o, S', ho, hS, h⟩, h'⟩
theorem MGP.pan {t : Nat} {o : Oper} {S : St} {es : List (Nat × Nat)} (ho : ops[p]? = some o) (hg : o.guard = none) (h : PanOp P G c0 S o) (h' : MGP P G c0 ops Ss p es S) : MGP P G c0 ops Ss p ((p, t) :: es) S := ⟨.inl ⟨rfl, o, ho, hg, h⟩, h'⟩
theorem MNP.nil {Sr : List St} : MNP P G c0 ops Ss p [] Sr := by unfold MNP; trivial
theorem MNP.cons {L : List Bool} {es : List (Nat × Nat)} {S : St} {r : List MNode} {Sr : List St} (h : MGP P G c0 ops Ss p es S) (h' : MNP P G c0 ops Ss p r Sr) : MNP P G c0 ops Ss p ((L, es) :: r) (S :: Sr) := ⟨h, h'⟩
theorem MGP.get : ∀ {es : List (Nat × Nat)} {S : St}, MGP P G c0 ops Ss p es S → ∀ i t, (i, t) ∈ es → (i = p ∧ ∃ o, ops[i]? = some o ∧ o.guard = none ∧ PanOp P G c0 S o) ∨ (i ≠ p ∧ ∃ o S', ops[i]? = some o ∧ Ss[t]? = some S' ∧ RG P G ops [o] (fun A' => Le A' S') S)
  | (i0, t0) :: es, S, h, i, t, hm => by
    rcases List.mem_cons.1 hm with e | hm
    · cases e; exact h.1
    · exact MGP.get h.2 i t hm
theorem MNP.get : ∀ {nodes : List MNode} {Sr : List St}, MNP P G c0 ops Ss p nodes Sr → ∀ (k : Nat) (L : List Bool) (es : List (Nat × Nat)) (S : St), nodes[k]? = some (L, es) → Sr[k]? = some S → MGP P G c0 ops Ss p es S
  | (L0, es0) :: r, S0 :: Sr, h, 0, L, es, S, h1, h2 => by
    simp only [List.getElem?_cons_zero, Option.some.injEq, Prod.mk.injEq] at h1 h2
    obtain ⟨rfl, rfl⟩ := h1
    subst h2
    exact h.1
  | (L0, es0) :: r, S0 :: Sr, h, k + 1, L, es, S, h1, h2 => MNP.get h.2 k L es S (by simpa using h1) (by simpa using h2)
  | [], _, _, k, L, es, S, h1, _ => by simp at h1
  | _ :: _, [], _, k, L, es, S, _, h2 => by simp at h2
theorem wpOp_of {o : Oper} {j : Nat} {a : Act} {w : World} {K : Act → World → Prop} {Q' : Exit → Act → World → Prop} (ho : ops[j]? = some o) (h1 : wpList P ops (fun e a' w' => match e with | .normal => K a' w' | e => Q' e a' w') [o] a w) : wpOp P ops Q' j K a w := by
  unfold wpList at h1
  unfold wpOp
  simp only [ho]
  split
  · rename_i hw
    rw [if_pos hw] at h1
    rcases h1 with h1 | ⟨h1, a2, w2, h2⟩
    · refine .inl ?_
      unfold Oper.wp at *
      revert h1
      generalize (execOp a.eval o).run P w = r
      intro h1
      cases r with
      | ok n w' =>
        cases n <;> simp only [Oper.upon] at h1 ⊢ <;>
          first
            | exact h1
            | exact Calls.mono h1 (fun e w'' he => by
                cases e <;> first
                  | exact he
                  | (obtain ⟨a0, w0, h0⟩ := he; exact ⟨a0, w0, h0⟩))
            | exact Rows.mono h1 (fun _ _ he => he)
      | halt x w' => cases x <;> simp only [Oper.upon] at h1 ⊢ <;> exact h1
    · exact .inr ⟨h1, a2, w2, h2⟩
  · rename_i hw
    rw [if_neg hw] at h1
    exact h1
attribute [irreducible] MGP MNP
end
end
end Lf
end
section
set_option linter.unusedVariables false
set_option linter.unusedSimpArgs false
set_option linter.unusedSectionVars false
namespace Lf
open Go Go.RowKit
section
variable {P : Program} {G : Ghost} {Φ : Frz} {β : Own} {a : Act} {w : World}
end
inductive CK where
  | fp (d : Nat) (p : PV)
  | ff (d : Nat) (v : AV) (B : Blk)
  | ch (A : St)
def CK.free : CK → Bool
  | .ch _ => false
  | _ => true
def CK.pair : CK → Option (Nat × (Prop × AV))
  | .fp d p => some (d, (True, .pv p))
  | .ff d v B => some (d, (True, v))
  | .ch _ => none
def CK.blk : CK → Option (Nat × Blk)
  | .ff d v B => some (d, B)
  | _ => none
def CK.step (A : St) : CK → St
  | .fp d p => St.mk A.n ((d, (True, .pv p)) :: A.env) A.blks
  | .ff d v B => St.mk A.n ((d, (True, v)) :: A.env) ((d, B) :: A.blks)
  | .ch A' => A'
def tS (A : St) (ks : List CK) : St := ks.foldl CK.step A
def xs {α : Type _} (f : CK → Option α) (L : Nat → Bool) : Nat → List CK → List α
  | _, [] => []
  | i, k :: r => xs f L (i + 1) r ++ (if L i then (f k).toList else [])
def AV.isPv : AV → Bool
  | .pv _ => true
  | _ => false
structure ChainOk (P : Program) (n : Nat) (ms : List Nat) (ks : List CK) (i : Nat) (o : Oper) (T A' : St) : Prop where
  guard : o.guard = none
  eff : ∀ G, EffOp P G T o A'
  hn : A'.n = n
  keep : ∀ t q p, o.dst ≠ some t → (lk A'.env t = some (q, .pv p) ↔ lk T.env t = some (q, .pv p))
  all : ∀ j, j < i → (ms.getD i 0).testBit j = true
  slots : ∀ j k, i < j → ks[j]? = some k → ∀ d e, k.pair = some (d, e) → lk T.env d = none ∧ lk A'.env d = none ∧ o.dst ≠ some d
  names : ∀ j k, i < j → ks[j]? = some k → ∀ d B, k.blk = some (d, B) → (lk T.blks d = none ∧ lk A'.blks d = none) ∧ (∀ t e, lk T.env t = some e → e.2.ment d = false) ∧ ∀ t e, lk A'.env t = some e → e.2.ment d = false
def StepC (P : Program) (n : Nat) (l : List Oper) (ms : List Nat) (A0 : St) (ks : List CK) (ts : List Nat) (i : Nat) (o : Oper) (T : St) : CK → Prop
  | .fp d p => ((o.dst = some d ∧ o.guard = none ∧ d < n) ∧ (∀ G, PureOp P G (St.mk n (only ts T.env) []) o True (.pv p))) ∧ (∀ t e, lk (only ts T.env) t = some e → e.2.isPv = true) ∧ ∀ t ∈ ts, ∀ (j : Nat) (o' : Oper) (k : CK), l[j]? = some o' → o'.dst = some t → ks[j]? = some k → k.free = true
  | .ff d v B => ((o.dst = some d ∧ o.guard = none ∧ lk A0.blks d = none) ∧ (∀ k, v.ment k = true → k = d) ∧ ∀ G, FreshV P G n (only ts T.env) o d B v) ∧ (∀ t e, lk (only ts T.env) t = some e → e.2.isPv = true) ∧ ∀ t ∈ ts, ∀ (j : Nat) (o' : Oper) (k : CK), l[j]? = some o' → o'.dst = some t → ks[j]? = some k → k.free = true
  | .ch A' => ChainOk P n ms ks i o T A'
section
variable {P : Program} {G : Ghost} {n : Nat} {l : List Oper} {ms : List Nat} {tss : List (List Nat)} {A0 : St} {ks : List CK}
variable (hok : orderOkS l ms tss = true) (hnd : ∀ (j j' : Nat) (o o' : Oper) (d : Nat), l[j]? = some o → l[j']? = some o' → o.dst = some d → o'.dst = some d → j = j') (hA0 : A0.n = n) (hkl : ks.length = l.length)
  (hv : ∀ (i : Nat) (o : Oper) (k : CK), l[i]? = some o → ks[i]? = some k → StepC P n l ms A0 ks (tss.getD i []) i o (tS A0 (ks.take i)) k)
include hA0 hkl hv
end
section
variable {P : Program} {G : Ghost} {n : Nat}
variable {bl0 : List (Nat × Blk)} {cd : List Nat} {rest : List Oper} {i my : Nat} {ts : List Nat} {tss : List (List Nat)} {ms : List Nat} {fd : List (Nat × Bool)} {env : Env} {bl : List (Nat × Blk)} {K : St → Prop} {op : Op} {ty : TypeId} {pos : String} {after : Array Edge}
/-- what is left of the slots, written out -/
def FG (d m : Nat) (l l' : Env) : Prop := fgt d (fgt m l) = l'
theorem FG.nil {d m : Nat} : FG d m [] [] := rfl
theorem FG.keep {d m t : Nat} {q : Prop} {v : AV} {r r' : Env} (h1 : v.ment m = false) (h2 : v.ment d = false) (h : FG d m r r') : FG d m ((t, (q, v)) :: r) ((t, (q, v)) :: r') := by
  have h : fgt d (fgt m r) = r' := h
  show fgt d (fgt m _) = _
  rw [fgt, h1, cond_false, fgt, h2, cond_false, h]
theorem FG.gone {d m t : Nat} {q : Prop} {v : AV} {r r' : Env} (h1 : (v.ment m || v.ment d) = true) (h : FG d m r r') : FG d m ((t, (q, v)) :: r) ((t, (q, .top)) :: r') := by
  have h : fgt d (fgt m r) = r' := h
  show fgt d (fgt m _) = _
  rw [fgt]
  cases hm : v.ment m with
  | true => rw [cond_true, fgt, h]; rfl
  | false =>
    rw [hm, Bool.false_or] at h1
    rw [cond_false, fgt, h1, cond_true, h]
section
variable {T : Nat → Option TI} (hT : TOK P T)
include hT
end
end
attribute [irreducible] FG
end Lf
end
section
set_option linter.unusedVariables false
set_option linter.unusedSimpArgs false
set_option maxHeartbeats 8000000
set_option linter.unusedSectionVars false
namespace Go.Proofs.YtjedkgogjehigaaGreat
open Lf Go
attribute [local irreducible] PureOp EffOp Ev RG W Then InBlock Lf.Fin nth App InitE Pick SubE EvL EvD EvP EvR ResL Lf.Lex SubR SubBR RA RAll EvC FinO FinM ResM ResD FinS val pw digs trimL
attribute [local irreducible] WP PanOp
section
variable {L : List Let} {us : List Int}
abbrev scV (L : List Let) (us : List Int) : PV := .agg [.sl (L.map encL), .sl (us.map encJ)]
/-- the unit of a name, among the definitions whose units are known -/
def nameU (L : List Let) (us : List Int) (s : Str) : Int := if L.any (nameEq s) then nth us (L.findIdx (nameEq s)) else -1
theorem nameU1_ok (y : Let) (s : Str) : ACalls Tryz.prog 116 [aL y, .one (.ptr [.str s])] (.pv (cB (nameEq s y))) := by
  unfold nameEq
  refine ACalls.of_W (qs := [cB (decide (y.name = s))]) [3] 8 Tryz.func116 (by kernel_rfl) rfl rfl rfl fun G => ?_
  refine W.initA (hw := ?_)
  repeat' (first | ((first | apply U_); (first | exact QX.B TYok); exact rfl) | refine SX.Box TYok (h := ?_) | refine SC ?_)
  all_goals exact Fin.ret ResL.auto
theorem nameU_ok (hL : L.length ≤ 20) (hu : us.length = L.length) (s : Str) : ACalls Tryz.prog 85 [scV L us, cS s] (.pv (cI (nameU L us s))) := by
  have h1 := indexL_ok L 116 [.ptr [.str s]] (nameEq s) (by omega) (fun x _ => nameU1_ok x s)
  unfold nameU
  cases hn : L.any (nameEq s) with
  | false =>
    rw [fidx_miss hn] at h1
    rw [if_neg (by simp)]
    refine ACalls.of_W (qs := [cI (-1)]) [4] 17 Tryz.func85 (by kernel_rfl) rfl rfl rfl fun G => ?_
    refine W.initA (hw := ?_)
    repeat' (first | (refine W.weaken (Le.freeze1 (m := 3) rfl) ?_) | ((first | apply U_); (first | exact QX.B TYok | exact QX.Idx TYok | exact QX.Fun TYok | exact QCd (h1)); exact rfl) | refine SX.Box TYok (h := ?_) | refine SC ?_ | (refine W.condA (ht := fun hb => ?_) (hf := fun hb => ?_) <;> (try simp at hb) <;> (try (exfalso; omega))))
    all_goals exact Fin.ret ResL.auto
  | true =>
    have hi := List.findIdx_lt_length_of_exists (List.any_eq_true.1 hn)
    rw [fidx, if_pos hn] at h1
    rw [if_pos rfl]
    generalize L.findIdx (nameEq s) = i at *
    refine ACalls.of_W (qs := [cI (nth us i)]) [4] 17 Tryz.func85 (by kernel_rfl) rfl rfl rfl fun G => ?_
    refine W.initA (hw := ?_)
    repeat' (first | (refine W.weaken (Le.freeze1 (m := 3) rfl) ?_) | ((first | apply U_); (first | exact QX.B TYok | exact QX.Idx TYok | exact QX.Fun TYok | exact QCd (h1)); exact rfl) | refine SX.Box TYok (h := ?_) | refine SC ?_ | (refine W.condA (ht := fun hb => ?_) (hf := fun hb => ?_) <;> (try simp at hb) <;> (try (exfalso; omega))))
    all_goals exact Fin.ret ResL.auto
/-- a unit, or the place and the reason why there is none -/
inductive UR where
  | ok (u : Int)
  | bad (p : List Int) (e : Int)
inductive UA where
  | ok (l : List Int)
  | bad (p : List Int) (e : Int)
def nodeU (L : List Let) (us : List Int) (op u : Int) (s : Str) (path : List Int) (a : UA) : UR :=
  if op = 0 then .ok u else if op = 2 then .ok 1 else if op = 3 then .ok 2
  else if op = 1 then (if nameU L us s = -1 then .bad path 14 else .ok (nameU L us s))
  else match a with
  | .bad p e => .bad p e
  | .ok vs => if joinF op vs = -1 then .bad path 13 else .ok (joinF op vs)
mutual
def ofU (L : List Let) (us : List Int) : Exp → List Int → UR
  | .mk op _ u s l, path => nodeU L us op u s path (argsU L us l path 0)
def argsU (L : List Let) (us : List Int) : List Exp → List Int → Nat → UA
  | [], _, _ => .ok []
  | e :: r, path, i => match ofU L us e (path ++ [(i : Int)]) with
    | .bad p x => .bad p x
    | .ok u => match argsU L us r path (i + 1) with
      | .bad p x => .bad p x
      | .ok vs => .ok (u :: vs)
end
theorem nth_cons0 {α : Type} [Inhabited α] (x : α) (l : List α) : nth (x :: l) 0 = x := by rw [nth]; rfl
theorem nth_consS {α : Type} [Inhabited α] (x : α) (l : List α) (k : Nat) : nth (x :: l) (k + 1) = nth l k := by rw [nth, nth]; rfl
theorem args_ok : ∀ (l : List Exp) (path : List Int) (i : Nat) (vs : List Int), argsU L us l path i = .ok vs → vs.length = l.length ∧ ∀ j, j < l.length → ofU L us (nth l j) (path ++ [((i + j : Nat) : Int)]) = .ok (nth vs j)
  | [], _, _, vs, h => by rw [argsU] at h; injection h with h; subst h; exact ⟨rfl, fun j hj => absurd hj (by simp)⟩
  | e :: r, path, i, vs, h => by
    rw [argsU] at h
    cases h1 : ofU L us e (path ++ [(i : Int)]) with
    | bad p x => rw [h1] at h; cases h
    | ok u =>
      rw [h1] at h
      dsimp only at h
      cases h2 : argsU L us r path (i + 1) with
      | bad p x => rw [h2] at h; cases h
      | ok ws =>
        rw [h2] at h
        injection h with h
        subst h
        obtain ⟨g1, g2⟩ := args_ok r path (i + 1) ws h2
        refine ⟨by simp [g1], fun j hj => ?_⟩
        cases j with
        | zero => rw [nth_cons0, nth_cons0]; exact h1
        | succ j =>
          rw [nth_consS, nth_consS, show i + (j + 1) = i + 1 + j by omega]
          exact g2 j (by simpa using hj)
theorem args_bad : ∀ (l : List Exp) (path : List Int) (i : Nat) (p : List Int) (x : Int), argsU L us l path i = .bad p x → ∃ k, k < l.length ∧ (∃ vs : List Int, ∀ j, j < k → ofU L us (nth l j) (path ++ [((i + j : Nat) : Int)]) = .ok (nth vs j)) ∧ ofU L us (nth l k) (path ++ [((i + k : Nat) : Int)]) = .bad p x
  | [], _, _, p, x, h => by rw [argsU] at h; cases h
  | e :: r, path, i, p, x, h => by
    rw [argsU] at h
    cases h1 : ofU L us e (path ++ [(i : Int)]) with
    | bad p' x' =>
      rw [h1] at h
      injection h with a b
      subst a b
      exact ⟨0, by simp, ⟨[], fun j hj => absurd hj (by omega)⟩, by rw [nth_cons0]; exact h1⟩
    | ok u =>
      rw [h1] at h
      dsimp only at h
      cases h2 : argsU L us r path (i + 1) with
      | bad p' x' =>
        rw [h2] at h
        injection h with a b
        subst a b
        obtain ⟨k, g1, ⟨vs, g2⟩, g3⟩ := args_bad r path (i + 1) p' x' h2
        refine ⟨k + 1, by simp; omega, ⟨u :: vs, fun j hj => ?_⟩, ?_⟩
        · cases j with
          | zero => rw [nth_cons0, nth_cons0]; exact h1
          | succ j => rw [nth_consS, nth_consS, show i + (j + 1) = i + 1 + j by omega]; exact g2 j (by omega)
        · rw [nth_consS, show i + (k + 1) = i + 1 + k by omega]; exact g3
      | ok ws => rw [h2] at h; cases h
abbrev pI (p : List Int) : PV := .one (.sl (p.map encJ))
abbrev whyC (p : List Int) (e : Int) : Cell := .iface 74 [.sl (p.map encJ), .int .i64 e]
/-- a leaf -/
theorem of_leaf {op k u : Int} {s : Str} {l : List Exp} {path : List Int} (r : Int) (h : (op = 0 ∧ r = u) ∨ (op = 2 ∧ r = 1) ∨ (op = 3 ∧ r = 2)) : ACalls Tryz.prog 57 [scV L us, .agg [.int .i64 op, .int .i64 k, .int .i64 u, .str s, .sl (l.map encX)], pI path] (.pv (cI r)) := by
  refine ACalls.of_W (qs := [cI r]) [6] 66 Tryz.func57 (by kernel_rfl) rfl rfl rfl fun G => ?_
  refine W.initA (hw := ?_)
  repeat' (first | (refine W.weaken (Le.freeze1 (m := 3) rfl) ?_) | (refine W.weaken (Le.freeze1 (m := 4) rfl) ?_) | ((first | apply U_); (first | exact QX.B TYok | exact QX.Len TYok | exact QX.Idx TYok | exact QX.Build TYok); exact rfl) | refine SX.Box TYok (h := ?_) | refine SC ?_ | (refine W.condA (ht := fun hb => ?_) (hf := fun hb => ?_) <;> (try simp at hb) <;> (try (exfalso; omega))))
  all_goals first
    | (exfalso; omega)
    | (refine Fin.ret (ResL.cons rfl rfl (PSub.of_eq ?_) ResL.nil); congr 2; omega)
    | trace_state
theorem of_name {k u : Int} {s : Str} {l : List Exp} {path : List Int} (r : Int) (hr : r ≠ -1) (h : ACalls Tryz.prog 85 [scV L us, cS s] (.pv (cI r))) : ACalls Tryz.prog 57 [scV L us, .agg [.int .i64 1, .int .i64 k, .int .i64 u, .str s, .sl (l.map encX)], pI path] (.pv (cI r)) := by
  refine ACalls.of_W (qs := [cI r]) [6] 66 Tryz.func57 (by kernel_rfl) rfl rfl rfl fun G => ?_
  refine W.initA (hw := ?_)
  repeat' (first | (refine W.weaken (Le.freeze1 (m := 3) rfl) ?_) | (refine W.weaken (Le.freeze1 (m := 4) rfl) ?_) | ((first | apply U_); (first | exact QX.B TYok | exact QX.Len TYok | exact QX.Idx TYok | exact QX.Build TYok | exact QCd (h)); exact rfl) | refine SX.Box TYok (h := ?_) | refine SC ?_ | (refine W.condA (ht := fun hb => ?_) (hf := fun hb => ?_) <;> (try simp at hb) <;> (try (exfalso; omega))))
  all_goals first
    | (exfalso; omega)
    | exact Fin.ret ResL.auto
    | trace_state
theorem of_name_bad {k u : Int} {s : Str} {l : List Exp} {path : List Int} (hp : path.length ≤ 20) (h : ACalls Tryz.prog 85 [scV L us, cS s] (.pv (cI (-1)))) : PanCalls Tryz.prog 57 [scV L us, .agg [.int .i64 1, .int .i64 k, .int .i64 u, .str s, .sl (l.map encX)], pI path] (whyC path 14) := by
  have hc := (clone_ok path (by omega)).data rfl
  refine PanCalls.of_WP 66 Tryz.func57 (by kernel_rfl) rfl rfl fun G => ?_
  refine WP.initA (hw := ?_)
  repeat' (first | (refine WP.weaken (Le.freeze1 (m := 3) rfl) ?_) | (refine WP.weaken (Le.freeze1 (m := 4) rfl) ?_) | (refine WP.regionP (id := 11) (pre := [_, _, _, _]) (o := _) (suf := []) rfl rfl ?_) | ((first | apply U_); (first | (apply Q_makeI TYok; exact rfl; exact rfl; exact Ev.auto; exact rfl) | exact QX.B TYok | exact QX.Len TYok | exact QX.Idx TYok | exact QX.Build TYok | exact QCd (h) | exact QCd (hc)); exact rfl) | refine SX.Box TYok (h := ?_) | (apply PanOp.panic; exact Ev.auto; exact trivial) | refine WP.seq ?_ | refine WP.block ?_ | (refine WP.condA (ht := fun hb => ?_) (hf := fun hb => ?_) <;> (try simp at hb) <;> (try (exfalso; omega))) | (refine WP.of_W (c := .region _ _ _) ?_) | refine SC ?_)
  all_goals trace_state
end
end Go.Proofs.YtjedkgogjehigaaGreat
end
