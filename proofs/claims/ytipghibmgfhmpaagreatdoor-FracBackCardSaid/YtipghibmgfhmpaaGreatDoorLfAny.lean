/-
  Regions whose order is open, way by way; slices that a callee makes for its caller; function values that hold pointers; comparing structs; the rules of maps as a walk uses them.
-/
import Derived.Test.YtipghibmgfhmpaaGreatDoorLfMap
set_option linter.unusedVariables false
set_option linter.unusedSimpArgs false
set_option linter.unusedSectionVars false
namespace Lf
open Go Go.RowKit

/-! ### A region way by way -/
section
variable {P : Program} {G : Ghost} {A : St} {ops : Array Oper} {fuel : Nat} {L : List Bool} {Q : St → Prop}
/-- What is left of a region of which L has been carried out, in whatever order. -/
def RA (P : Program) (G : Ghost) (ops : Array Oper) (fuel : Nat) (L : List Bool) (Q : St → Prop) (A : St) : Prop :=
  ∀ Φ β a w, Sat G Φ β A a w → ∀ Q' : Exit → Act → World → Prop, (∀ A' Φ' β' a' w', Q A' → Sat G Φ' β' A' a' w' → Φ.le Φ' → Q' .normal a' w') → wpAny P .any ops Q' fuel L.toArray a w
def RAll (P : Program) (G : Ghost) (ops : Array Oper) (fuel : Nat) (L : List Bool) (Q : St → Prop) (A : St) : List Nat → Prop
  | [] => True
  | i :: is => (∃ o, ops[i]? = some o ∧ RG P G ops [o] (RA P G ops fuel (L.set i true) Q) A) ∧ RAll P G ops fuel L Q A is
theorem RAll.nil : RAll P G ops fuel L Q A [] := trivial
theorem RAll.cons {i : Nat} {is : List Nat} {o : Oper} (ho : ops[i]? = some o) (h : RG P G ops [o] (RA P G ops fuel (L.set i true) Q) A) (h' : RAll P G ops fuel L Q A is) : RAll P G ops fuel L Q A (i :: is) := ⟨⟨o, ho, h⟩, h'⟩
theorem RAll.get : ∀ {is : List Nat}, RAll P G ops fuel L Q A is → ∀ i ∈ is, ∃ o, ops[i]? = some o ∧ RG P G ops [o] (RA P G ops fuel (L.set i true) Q) A
  | j :: is, h, i, hi => by
    rcases List.mem_cons.1 hi with rfl | hm
    · exact h.1
    · exact RAll.get h.2 i hm
theorem RA.done (hr : Region.ready .any ops L.toArray = []) (h : Q A) : RA P G ops 0 L Q A := fun Φ β a w hs Q' hq => ⟨hr, hq A Φ β a w h hs Φ.le_refl⟩
theorem RA.step {i : Nat} {is : List Nat} (hr : Region.ready .any ops L.toArray = i :: is) (h : RAll P G ops fuel L Q A (i :: is)) : RA P G ops (fuel + 1) L Q A := fun Φ β a w hs Q' hq => by
  refine ⟨fun e => (by rw [hr] at e; cases e), fun j hj => ?_⟩
  rw [hr] at hj
  obtain ⟨o, ho, hg⟩ := h.get j hj
  let Q'' : Exit → Act → World → Prop := fun e a' w' => match e with
    | .normal => wpAny P .any ops Q' fuel (L.set j true).toArray a' w'
    | e => Q' e a' w'
  have h1 := hg Φ β a w hs Q'' fun A1 Φ1 β1 a1 w1 q s l => q Φ1 β1 a1 w1 s Q' fun A2 Φ2 β2 a2 w2 q2 s2 l2 => hq A2 Φ2 β2 a2 w2 q2 s2 (Frz.le_trans l l2)
  unfold wpList at h1
  unfold wpOp
  simp only [ho]
  have hk : ∀ a' w', wpList P ops Q'' [] a' w' → wpAny P .any ops Q' fuel (L.toArray.setIfInBounds j true) a' w' := fun a' w' h => by
    have : L.toArray.setIfInBounds j true = (L.set j true).toArray := by simp
    rw [this]; exact h
  split
  · rename_i hw
    rw [if_pos hw] at h1
    rcases h1 with h1 | ⟨h1, a2, w2, h2⟩
    · refine .inl ?_
      unfold Oper.wp at *
      revert h1
      generalize (execOp a.eval o).run P w = r
      intro h1
      cases r with
      | ok n w' =>
        cases n <;> simp only [Oper.upon] at h1 ⊢ <;>
          first
            | exact hk _ _ h1
            | exact Calls.mono h1 (fun e w'' he => by
                cases e <;> first
                  | exact hk _ _ he
                  | exact he
                  | (obtain ⟨a0, w0, h0⟩ := he; exact ⟨a0, w0, h0⟩))
            | exact Rows.mono h1 (fun _ _ he => hk _ _ he)
      | halt x w' => cases x <;> simp only [Oper.upon] at h1 ⊢ <;> exact h1
    · exact .inr ⟨h1, a2, w2, h2⟩
  · rename_i hw
    rw [if_neg hw] at h1
    exact hk _ _ h1
theorem W.drawA {id : Nat} {l : List Oper} {L : List Bool} {Q : Exit → St → Prop} (hm : P.follows .mixedOrders = true) (hL : List.replicate l.length false = L) (h : RA P G l.toArray l.length L (Q .normal) A) : W P G (.region id l.toArray true) Q A := fun Φ β a w hs => by
  refine wp_region_any hm ?_
  have hsz : l.toArray.size = l.length := by simp
  rw [hsz]
  have e : Array.replicate l.length false = L.toArray := by rw [← hL]; simp
  rw [e]
  exact h Φ β a { w with drawn := w.drawn + 1 } ⟨hs.kept.drew, hs.fits, hs.old, hs.siz, hs.dfr, hs.env, hs.blk, hs.vir, hs.inj⟩ _ fun A' Φ' β' a' w' q s le => ⟨A', Φ', β', q, s, le⟩
end

/-! ### A callee that makes a slice for its caller -/
section
variable {P : Program} {G : Ghost} {A : St} {Φ : Frz} {β : Own} {a : Act} {w w' : World}
structure OCalls (P : Program) (f : FuncId) (args : List PV) (E sz : Nat) (rows : List (List Cell)) : Prop where
  fn : FnOK P f
  calls : ∀ (Φ : Frz) (w : World) (vs : Array Value), Fits Φ w → ArgsRel Φ vs args → Calls P f vs w (fun e w' => ∃ v Φ', e = .returned v ∧ ((v = .slice none 0 0 ∧ rows = []) ∨ ∃ b cap, v = .slice (some ⟨b, 0, none⟩) rows.length cap ∧ w.heap.size ≤ b ∧ BlkRel Φ' w' b cap ⟨E, sz, rows⟩ ∧ Φ' b = none) ∧
    Φ.le Φ' ∧ (∀ b, b < w.heap.size → Φ' b = Φ b) ∧ Fits Φ' w' ∧ Below w.heap.size w w')
/-- the end of such a function -/
def FinO (t E sz : Nat) (rows : List (List Cell)) (e : Exit) (A : St) : Prop := (e = .normal ∨ e = .ret) ∧ ((lk A.env t = some (True, .pv (.one .slnil)) ∧ rows = []) ∨ ∃ n, lk A.env t = some (True, .slc n) ∧ lk A.blks n = some ⟨E, sz, rows⟩)
theorem FinO.ret {t E sz n : Nat} {rows rows' : List (List Cell)} (h : lk A.env t = some (True, .slc n)) (hl : lk A.blks n = some ⟨E, sz, rows'⟩) (hr : rows' = rows) : FinO t E sz rows .ret A := ⟨.inr rfl, .inr ⟨n, h, hr ▸ hl⟩⟩
theorem FinO.nil {t E sz : Nat} {rows : List (List Cell)} (h : lk A.env t = some (True, .pv (.one .slnil))) (hr : rows = []) : FinO t E sz rows .ret A := ⟨.inr rfl, .inl ⟨h, hr⟩⟩

theorem sat_init {G : Ghost} {f : FuncId} {fn : Func} {args : List PV} {Φ : Frz} {w : World} {vs : Array Value} (hG : G = { w0 := w, K := fun b => b < w.heap.size, F0 := Φ, lt := fun b h => h }) (hfit : Fits Φ w) (harg : ArgsRel Φ vs args) :
    Sat G Φ (fun _ => none) (St.init fn.ntmps args) { tmps := vs ++ Array.replicate (fn.ntmps - vs.size) undef, defers := [] } w := by
  subst hG
  refine ⟨⟨rfl, rfl, rfl, Nat.le_refl _, fun b _ => rfl⟩, hfit, fun b _ => rfl, by simp [St.init]; omega, rfl, fun t q v hl => ?_, fun n B b cap h1 => by simp [St.init, lk] at h1, fun n B h1 => by simp [St.init, lk] at h1, fun n n' B B' b cap cap' h1 => by simp [St.init, lk] at h1⟩
  obtain ⟨_, rfl, p, hp, rfl⟩ := lk_init args 0 t q v hl
  refine ⟨fun _ => ?_, fun hq => (hq trivial).elim⟩
  obtain ⟨v, h1, h2⟩ := harg.2 (t - 0) p hp
  have hlt := (Array.getElem?_eq_some_iff.1 h1).1
  have : (vs ++ Array.replicate (fn.ntmps - vs.size) undef).getD t undef = v := by
    rw [Array.getD_eq_getD_getElem?, Array.getElem?_append_left (by simpa using hlt)]
    simp only [Nat.sub_zero] at h1
    rw [h1]; rfl
  show PRel Φ _ p
  rw [this]; exact h2

theorem OCalls.of_W {f : FuncId} {fn : Func} {c : Code} {args : List PV} {E sz : Nat} {rows : List (List Cell)} (t n : Nat) (hf : P.funcs[f]? = some fn) (hn : (fn.name == "runtime.NumGoroutine") = false) (hb : fn.body = some c)
    (hr : fn.results = #[.tmp t]) (hnt : fn.ntmps = n) (hE : Nat.ble mapTag E = false) (h : ∀ G, W P G c (FinO t E sz rows) (St.init n args)) : OCalls P f args E sz rows where
  fn := ⟨fn, hf, hn, by rw [hb]; rfl⟩
  calls := fun Φ w vs hfit harg => by
    subst hnt
    refine calls_of_wp hf hb (wp_mono (h _ Φ (fun _ => none) _ w (sat_init (f := f) rfl hfit harg)) fun e a' w' ⟨A', Φ', β', ⟨he, hres⟩, hs, hle⟩ => ?_)
    have hv : a'.defers = [] ∧ ∃ v, (results fn a'.tmps).run P w' = .ok v w' ∧ (∃ v1 Φ'', Ending.returned v = .returned v1 ∧ ((v1 = .slice none 0 0 ∧ rows = []) ∨ ∃ b cap, v1 = .slice (some ⟨b, 0, none⟩) rows.length cap ∧ w.heap.size ≤ b ∧ BlkRel Φ'' w' b cap ⟨E, sz, rows⟩ ∧ Φ'' b = none) ∧
        Φ.le Φ'' ∧ (∀ b, b < w.heap.size → Φ'' b = Φ b) ∧ Fits Φ'' w' ∧ Below w.heap.size w w') := by
      refine ⟨hs.dfr, _, run_results (ts := [t]) (by rw [hr]; rfl) _ _, _, Φ', rfl, ?_, hle, fun b hb => hs.old b hb, hs.fits, ⟨hs.kept.os, hs.kept.tape, hs.kept.output, hs.kept.size, hs.kept.block⟩⟩
      show ((a'.tmps.getD t undef) = _ ∧ _) ∨ _
      rcases hres with ⟨h1, h2⟩ | ⟨m, h1, h2⟩
      · have h3 : Rel Φ' (a'.tmps.getD t undef) .slnil := (hs.env t True _ h1).1 trivial
        refine .inl ⟨?_, h2⟩
        cases hv : a'.tmps.getD t undef <;> rw [hv] at h3 <;> cases h3
        rfl
      · obtain ⟨B, k1, k2, k3⟩ := (hs.env t True _ h1).1 trivial
        rw [h2] at k1
        obtain rfl := Option.some.inj k1
        rcases k3 with ⟨k3, k4⟩ | ⟨b, cap, k3, k4⟩
        · exact .inl ⟨k4, hs.vir m _ h2 k3⟩
        · obtain ⟨g1, g2, g3⟩ := hs.blk m _ b cap h2 k3
          refine .inr ⟨b, cap, k4, ?_, g1, g3⟩
          exact Nat.le_of_not_lt g2
    rcases he with rfl | rfl
    · exact hv
    · exact hv

theorem Sat.below {Φ' : Frz} (hs : Sat G Φ β A a w) (hle : Φ.le Φ') (heq : ∀ b, b < w.heap.size → Φ' b = Φ b) (hf : Fits Φ' w') (hb : Below w.heap.size w w') : Sat G Φ' β A a w' where
  kept := hs.kept.below hb
  fits := hf
  old := fun b hk => (heq b (Nat.lt_of_lt_of_le (G.lt b hk) hs.kept.size)).trans (hs.old b hk)
  siz := hs.siz
  dfr := hs.dfr
  env := fun t q v h => ⟨fun hq => ((hs.env t q v h).1 hq).mono hle, (hs.env t q v h).2⟩
  blk := fun n B b cap h1 h2 => by
    obtain ⟨h3, h4, h5⟩ := hs.blk n B b cap h1 h2
    exact ⟨blkRel_below hle hb h3, h4, by rw [heq b h3.lt]; exact h5⟩
  vir := hs.vir
  inj := hs.inj

theorem E_callo {o : Oper} {f : FuncId} {xs : List Operand} {ats : Array TypeId} {ps : List PV} {E sz d : Nat} {rows : List (List Cell)} (ho : o.op = .call { callee := .value (.func f), args := xs.toArray, argTypes := ats }) (hd : o.dst = some d) (hn : d < A.n)
    (hx : EvD A True xs ps) (hE : Nat.ble mapTag E = false) (hc : OCalls P f ps E sz rows) : EffOp P G A o ((A.bind d d ⟨E, sz, rows⟩).set d True (.slc d)) := fun Φ β a w hs => by
  unfold Oper.wp
  rw [call_run ho hc.fn]
  refine Calls.mono (hc.calls Φ w _ hs.fits ⟨by simp [evd_len hx], fun j q hq => ?_⟩) ?_
  · obtain ⟨x, h1, h2⟩ := evd_args hs trivial hx j q hq
    exact ⟨a.eval x, by simp [h1], h2⟩
  · rintro e w' ⟨v, Φ', rfl, hv, hle, heq, hfit, hb⟩
    have hs' := hs.below hle heq hfit hb
    show ∃ Φ'' β', Sat G Φ'' β' _ (a.put o.dst v) w' ∧ Φ.le Φ''
    rw [hd]
    rcases hv with ⟨rfl, rfl⟩ | ⟨b, cap, rfl, h1, h2, h3⟩
    · exact ⟨Φ', _, (hs'.bindNil (d := d) (n := d) (E := E) (sz := sz)).putNil hn (by simp only [St.bind]; rw [lk_cons, if_pos rfl]) (by exact hE) (by simp), hle⟩
    · have hbd := hs'.bind (w' := w') (d := d) (n := d) (b := b) (cap := cap) (B := ⟨E, sz, rows⟩) (row := none) ⟨rfl, rfl, rfl, Nat.le_refl _, fun _ _ _ => rfl⟩ (fun k e => by cases e) h2
        (fun hk => by have := G.lt b hk; have := hs.kept.size; omega) h3 (fun m B' cap' _ _ q1 q2 => by have := (hs.blk m B' b cap' q1 q2).1.lt; omega)
      exact ⟨Φ', _, hbd.putSlc hn (by simp only [St.bind]; rw [lk_cons, if_pos rfl]) (by exact hE) bindOwn_self, hle⟩

/-- A function whose result lies in a cell of its own. -/
theorem ACalls.of_Wcell {f : FuncId} {fn : Func} {c : Code} {args : List PV} {q : PV} {T : TT} (hT : TOK P T) (t ty n : Nat) {ti : TI} (hf : P.funcs[f]? = some fn) (hn : (fn.name == "runtime.NumGoroutine") = false) (hb : fn.body = some c)
    (hr : fn.results = #[.cell t ty]) (hnt : fn.ntmps = n) (hty : T ty = some ti) (hag : ti.kind.isAgg = some true)
    (h : ∀ G, W P G c (fun e A => (e = .normal ∨ e = .ret) ∧ ∃ m cs, lk A.env t = some (True, .addr m 0 0) ∧ lk A.blks m = some ⟨ty, ti.sz, [cs]⟩ ∧ q = .agg cs) (St.init n args)) : ACalls P f args (.pv q) where
  fn := ⟨fn, hf, hn, by rw [hb]; rfl⟩
  calls := fun Φ w vs hfit harg => by
    subst hnt
    refine calls_of_wp hf hb (wp_mono (h _ Φ (fun _ => none) _ w (sat_init (f := f) rfl hfit harg)) fun e a' w' ⟨A', Φ', β', ⟨he, m, cs, h1, h2, h3⟩, hs, hle⟩ => ?_)
    obtain ⟨b, cap, B, k1, k2, hob, k3⟩ := (hs.env t True _ h1).1 trivial
    rw [h2] at k2
    obtain rfl := Option.some.inj k2
    obtain ⟨cur, g1, g2, g3, g4, g5, g6⟩ := (hs.blk m _ b cap h2 k1).1.cells hob
    have hlen : cs.length = ti.sz := g5 cs (by simp)
    have hcell : ∀ j, j < ti.sz → w'.cell? ⟨b, 0 + j, none⟩ = some ((cur[j]?).getD undef) := fun j hj => by
      obtain ⟨v, q1, q2⟩ := g6 0 j cs (cs[j]'(by omega)) rfl (List.getElem?_eq_getElem _)
      simp only [Nat.zero_mul, Nat.zero_add] at q1 ⊢
      rw [cell_of_row w' b _ cur _ (0, 0) g1, q1]; rfl
    have hload := run_loadCells (P := P) w' ⟨b, 0, none⟩ ti.sz (fun j => (cur[j]?).getD undef) (fun j hj => by rw [Addr.add_lit]; exact hcell j hj)
    have hres : (results fn a'.tmps).run P w' = .ok (.agg ((List.range ti.sz).map fun j => (cur[j]?).getD undef).toArray) w' := by
      have e1 : a'.tmps.getD t undef = .pointer (some ⟨b, 0, none⟩) := by rw [k3]; simp
      unfold results
      rw [hr]
      simp only [List.mapM_toArray, List.mapM_cons, List.mapM_nil, e1]
      simp [asAddr, loadVar, run_isAgg hT hty hag, run_sizeOf hT hty, hload]
    have hv : a'.defers = [] ∧ ∃ v, (results fn a'.tmps).run P w' = .ok v w' ∧ (∃ v1 Φ'', Ending.returned v = .returned v1 ∧ AVRel Φ'' (fun _ => none) [] v1 (.pv q) ∧ Φ.le Φ'' ∧ (∀ b, b < w.heap.size → Φ'' b = Φ b) ∧ Fits Φ'' w' ∧ Below w.heap.size w w') := by
      refine ⟨hs.dfr, _, hres, _, Φ', rfl, ?_, hle, fun b hb => hs.old b hb, hs.fits, ⟨hs.kept.os, hs.kept.tape, hs.kept.output, hs.kept.size, hs.kept.block⟩⟩
      subst h3
      refine ⟨_, rfl, ?_⟩
      rw [← hlen]
      refine relL_range fun j c hj => ?_
      obtain ⟨v, q1, q2⟩ := g6 0 j cs c rfl hj
      simp only [Nat.zero_mul, Nat.zero_add] at q1
      rw [q1]; exact q2
    rcases he with rfl | rfl
    · exact hv
    · exact hv
end

/-! ### The rules of the walk -/
section
variable {P : Program} {G : Ghost} {ops : Array Oper} {rest : List Oper} {Q : St → Prop} {n0 : Nat} {env : List (Nat × (Prop × AV))} {bl : List (Nat × Blk)} {p : Prop} {dst : Option Nat} {ty : TypeId} {pos : String} {after : Array Edge} {gd : Option (Nat × Bool)}
def EvC (A : St) (p : Prop) : List Operand → List Cell → Prop
  | [], [] => True
  | x :: xs, c :: cs => Ev A p x (.pv (.one c)) ∧ EvC A p xs cs
  | _, _ => False
theorem EvC.nil {A : St} : EvC A p [] [] := trivial
theorem EvC.cons {A : St} {x : Operand} {c : Cell} {xs : List Operand} {cs : List Cell} (h : Ev A p x (.pv (.one c))) (h' : EvC A p xs cs) : EvC A p (x :: xs) (c :: cs) := ⟨h, h'⟩
theorem evc_get {A : St} {Φ : Frz} {β : Own} {a : Act} {w : World} (hs : Sat G Φ β A a w) (hp : p) : ∀ {xs : List Operand} {cs : List Cell}, EvC A p xs cs → xs.length = cs.length ∧ ∀ (j : Nat) (c : Cell), cs[j]? = some c → ∃ x, xs[j]? = some x ∧ Rel Φ (a.eval x) c
  | [], [], _ => ⟨rfl, fun j c h => by simp at h⟩
  | x :: xs, c :: cs, ⟨h1, h2⟩ => by
    obtain ⟨g1, g2⟩ := evc_get hs hp h2
    refine ⟨by simp [g1], fun j d hj => ?_⟩
    cases j with
    | zero => simp at hj; subst hj; exact ⟨x, rfl, hs.ev h1 hp⟩
    | succ j => simpa using g2 j d (by simpa using hj)
/-- a function value that holds data -/
theorem Q_makeFunc {f : Nat} {xs : List Operand} {cs : List Cell} (hx : EvC (St.mk n0 env bl) p xs cs) : PureOp P G (St.mk n0 env bl) ⟨dst, .makeFunc (.func f) #[] xs.toArray, ty, pos, after, gd⟩ p (.pv (.one (.fn f cs))) := PureOp.val fun Φ β a w hs hp => by
  obtain ⟨h1, h2⟩ := evc_get hs hp hx
  refine ⟨.func (.func f) #[] (xs.map a.eval).toArray, by simp [execOp, Instr.makeFunc], Rel.fn f cs _ (fun j => ((xs.map a.eval)[j]?).getD .nilFunc) (by simp [h1]) (fun j c hj => ?_) (fun j c hj => ?_)⟩
  · obtain ⟨x, k1, k2⟩ := h2 j c hj
    simp [k1]
  · obtain ⟨x, k1, k2⟩ := h2 j c hj
    simp [k1, k2]
/-- structs compared -/
theorem Q_binA {op : BinOp} {xt yt : Nat} {x y : Operand} {cs ds : List Cell} {r : Bool} (hx : Ev (St.mk n0 env bl) p x (.pv (.agg cs))) (hy : Ev (St.mk n0 env bl) p y (.pv (.agg ds)))
    (hr : ∀ (Φ : Frz) (xs ys : Array Value) (w : World), RelL Φ xs.toList cs → RelL Φ ys.toList ds → (do eqGuard op xt x y (.agg xs) (.agg ys); binOp op xt (.agg xs) (.agg ys) : Sem Value).run P w = .ok (.bool r) w) :
    PureOp P G (St.mk n0 env bl) ⟨dst, .binOp op xt x y yt, ty, pos, after, gd⟩ p (.pv (.one (.bool r))) := PureOp.val fun Φ β a w hs hp => by
  obtain ⟨xs, h1, h2⟩ := hs.ev hx hp
  obtain ⟨ys, h3, h4⟩ := hs.ev hy hp
  refine ⟨.bool r, exec_val (m := do eqGuard op xt x y (a.eval x) (a.eval y); binOp op xt (a.eval x) (a.eval y)) (by simp only [execOp]) ?_, Rel.bool _⟩
  rw [h1, h3]
  exact hr Φ xs ys w h2 h4
theorem EffF.fresh {σ : Type _} {o : Oper} {d : Nat} {B : σ → Blk} {x : σ → AV} (hfr : lk bl d = none) (h : EffF P G (St.mk n0 env bl) o (fun s => ((St.mk n0 env bl).bind d d (B s)).set d True (x s))) : EffF P G (St.mk n0 env bl) o (fun s => St.mk n0 ((d, (True, x s)) :: env) ((d, B s) :: bl)) := fun Φ β a w hs =>
  Oper.wp_mono' (h Φ β a w hs) (fun a' w' ⟨s, Φ', β', hs', hle⟩ => by
    have hl : ∀ m, lk ((d, B s) :: (d, deadBlk) :: bl) m = lk ((d, B s) :: bl) m := fun m => by
      rw [lk_cons, lk_cons, lk_cons]; split <;> rfl
    refine ⟨s, Φ', β', ⟨hs'.kept, hs'.fits, hs'.old, hs'.siz, hs'.dfr, fun t q v h1 => ?_, fun n C b cap h1 h2 => hs'.blk n C b cap ((hl n).trans h1) h2, fun n C h1 h2 => hs'.vir n C ((hl n).trans h1) h2, fun n n' C C' b c c' h1 h2 h3 h4 => hs'.inj n n' C C' b c c' ((hl n).trans h1) ((hl n').trans h2) h3 h4⟩, hle⟩
    rw [lk_cons] at h1
    by_cases e : d = t
    · rw [if_pos e] at h1
      have := hs'.env t q v (by simp only [St.set, St.bind]; rw [lk_cons, if_pos e]; exact h1)
      exact ⟨fun hq => (this.1 hq).congr hl, this.2⟩
    · rw [if_neg e] at h1
      have hno : q → v.ment d = false := fun hq => by
        have h2 := (hs.env t q v h1).1 hq
        cases v with
        | pv p => rfl
        | tup l => rfl
        | top => rfl
        | addr m i off =>
          obtain ⟨b, cap, C, g1, g2, g3⟩ := h2
          cases hm : (AV.addr m i off).ment d with
          | false => rfl
          | true => have e2 : m = d := Nat.eq_of_beq_eq_true hm; subst e2; rw [hfr] at g2; cases g2
        | pin m b0 c0 f =>
          obtain ⟨C, g1, g2, g3⟩ := h2
          cases hm : (AV.pin m b0 c0 f).ment d with
          | false => rfl
          | true => have e2 : m = d := Nat.eq_of_beq_eq_true hm; subst e2; rw [hfr] at g2; cases g2
        | slc m =>
          obtain ⟨C, g2, g3⟩ := h2
          cases hm : (AV.slc m).ment d with
          | false => rfl
          | true => have e2 : m = d := Nat.eq_of_beq_eq_true hm; subst e2; rw [hfr] at g2; cases g2
        | mp m =>
          obtain ⟨b, cap, C, g1, g2, g3⟩ := h2
          cases hm : (AV.mp m).ment d with
          | false => rfl
          | true => have e2 : m = d := Nat.eq_of_beq_eq_true hm; subst e2; rw [hfr] at g2; cases g2
        | itr e m =>
          obtain ⟨b, cap, C, M, c, g1, g2, g3, g4, g5, g6⟩ := h2
          cases hm : (AV.itr e m).ment d with
          | false => rfl
          | true =>
            simp only [AV.ment, Bool.or_eq_true] at hm
            rcases hm with hm | hm
            · have e2 : e = d := Nat.eq_of_beq_eq_true hm; subst e2; rw [hfr] at g2; cases g2
            · have e2 : m = d := Nat.eq_of_beq_eq_true hm; subst e2; rw [hfr] at g5; cases g5
      have h3 := hs'.env t q _ (by simp only [St.set, St.bind]; rw [lk_cons, if_neg e]; exact lk_fgt_some (lk_fgt_some h1))
      refine ⟨fun hq => ?_, h3.2⟩
      have h4 := h3.1 hq
      rw [hno hq] at h4
      simp only [cond_false] at h4
      rw [hno hq] at h4
      exact h4.congr hl) (fun _ _ _ h => h)

theorem S_callo {d E sz : Nat} {rows : List (List Cell)} {f : FuncId} {xs : List Operand} {ats : Array TypeId} {ps : List PV} (hc : OCalls P f ps E sz rows) (hE : Nat.ble mapTag E = false) (hfr : lk bl d = none) (hn : Nat.blt d n0 = true) (hx : EvD (St.mk n0 env bl) True xs ps)
    (h : RG P G ops rest Q (St.mk n0 ((d, (True, .slc d)) :: env) ((d, ⟨E, sz, rows⟩) :: bl))) : RG P G ops (⟨some d, .call ⟨.value (.func f), xs.toArray, ats⟩, ty, pos, after, none⟩ :: rest) Q (St.mk n0 env bl) :=
  RG.eff rfl (EffOp.fresh hfr (E_callo rfl rfl (blt_lt hn) hx hE hc)) h

variable {T : TT} (hT : TOK P T)
include hT
/-- a slice that came in, held against nil -/
theorem S_isnil {t e d yt : Nat} {x : Operand} {ti : TI} {rows : List (List Cell)} (ht : T t = some ti) (hk : ti.kind = .slice e) (hn : Nat.blt d n0 = true) (hx : Ev (St.mk n0 env bl) True x (.pv (.one (.sl rows))))
    (h : ∀ b : Bool, (b = true → rows = []) → RG P G ops rest Q (St.mk n0 ((d, (True, .pv (.one (.bool b)))) :: env) bl)) : RG P G ops (⟨some d, .binOp .eql t x (.const (.slice none 0 0)) yt, ty, pos, after, none⟩ :: rest) Q (St.mk n0 env bl) := by
  refine RG.effF (F := fun s : { b : Bool // b = true → rows = [] } => St.mk n0 ((d, (True, .pv (.one (.bool s.1)))) :: env) bl) rfl (EffF.of_val fun Φ β a w hs => ?_) fun s => h s.1 s.2
  have hu : P.underlying t = some (.slice e) := by have := (hT _ _ ht).kind; rw [hk] at this; exact this
  have hr : Rel Φ (a.eval x) (.sl rows) := hs.ev hx trivial
  obtain ⟨ad, len, cap, hv, hz⟩ : ∃ ad len cap, a.eval x = .slice ad len cap ∧ (ad.isNone = true → rows = []) := by
    generalize a.eval x = v at hr
    cases hr with
    | sl0 => exact ⟨_, _, _, rfl, fun _ => rfl⟩
    | slE a cap => exact ⟨_, _, _, rfl, fun h => by cases h⟩
    | sl b off len cap sz rows f => exact ⟨_, _, _, rfl, fun h => by cases h⟩
  refine ⟨.bool ad.isNone, w, ⟨ad.isNone, hz⟩, Φ, β, exec_val (m := do eqGuard .eql t x (.const (.slice none 0 0)) (a.eval x) (a.eval (.const (.slice none 0 0))); binOp .eql t (a.eval x) (a.eval (.const (.slice none 0 0)))) (by simp only [execOp]) ?_, hs.put (blt_lt hn) (Rel.bool _), Φ.le_refl⟩
  have e1 : a.eval (.const (.slice none 0 0)) = .slice none 0 0 := rfl
  rw [hv, e1]
  have e2 : eqGuard .eql t x (.const (.slice none 0 0)) (.slice ad len cap) (.slice none 0 0) = pure () := rfl
  rw [e2]
  simp only [pure_bind, binOp]
  have e3 : (Op.equal t (.slice ad len cap) (.slice none 0 0)).run P w = .ok ad.isNone w := by
    rw [Op.equal, Op.maxDepth, Op.equalIn]; cases ad <;> simp [run_underlying hu]
  simp [e3]

theorem S_makeMap (z : Nat) {t d : Nat} (hfr : lk bl d = none) (hn : Nat.blt d n0 = true)
    (h : RG P G ops rest Q (St.mk n0 ((d, (True, .mp d)) :: env) ((d, ⟨mapTag, z, []⟩) :: bl))) : RG P G ops (⟨some d, .makeMap t none, ty, pos, after, none⟩ :: rest) Q (St.mk n0 env bl) :=
  RG.eff rfl (EffOp.fresh hfr (E_makeMap (hT := hT) (t := t) (k := 0) (e := 0) (ti := ⟨.other, 0, 0, default⟩) rfl rfl (blt_lt hn))) h
variable {α γ : Type} [DecidableEq α] {kc : α → Cell} {kt : TypeId}
theorem S_mapUpdate (K : KeyK P kt kc) {t e n z : Nat} {m x y : Operand} {ti : TI} {vc : γ → List Cell} {M : List (α × γ)} {k : α} {v : γ} (hm : Ev (St.mk n0 env bl) True m (.mp n)) (hl : lk bl n = some ⟨mapTag, z, M.map (mrow kc vc)⟩)
    (hx : Ev (St.mk n0 env bl) True x (.pv (.one (kc k)))) (hy : Ev (St.mk n0 env bl) True y (.pv (mapPV z (vc v)))) (ht : T t = some ti) (hk : ti.kind = .map kt e) (hni : noItr n env = true)
    (h : RG P G ops rest Q (St.mk n0 env ((n, ⟨mapTag, z, (mput M k v).map (mrow kc vc)⟩) :: bl))) : RG P G ops (⟨none, .mapUpdate t m x y, ty, pos, after, none⟩ :: rest) Q (St.mk n0 env bl) :=
  RG.eff rfl (E_mapUpdate hT K rfl rfl ht hk hm hl hx hy hni) h
theorem Q_lookup (K : KeyK P kt kc) {t e n z : Nat} {m x : Operand} {c : Bool} {ti te : TI} {vc : γ → List Cell} {M : List (α × γ)} {k : α} {r : PV} (hm : Ev (St.mk n0 env bl) p m (.mp n)) (hl : lk bl n = some ⟨mapTag, z, M.map (mrow kc vc)⟩)
    (hx : Ev (St.mk n0 env bl) p x (.pv (.one (kc k)))) (ht : T t = some ti) (hk : ti.kind = .map kt e) (he : T e = some te) (hr : (match mget M k with | some v => mapPV z (vc v) | none => te.zero) = r) :
    PureOp P G (St.mk n0 env bl) ⟨dst, .lookup t m x c, ty, pos, after, gd⟩ p (bif c then .tup [r, .one (.bool (mget M k).isSome)] else .pv r) := P_lookup hT K rfl ht hk he hm hl hx hr
theorem S_range {t e d n : Nat} {m : Operand} {ti : TI} {B : Blk} (hm : Ev (St.mk n0 env bl) True m (.mp n)) (hl : lk bl n = some B) (ht : T t = some ti) (hk : ti.kind = .map kt e) (hdn : Nat.beq d n = false) (hfr : lk bl d = none) (hn : Nat.blt d n0 = true)
    (h : ∀ b : Nat, RG P G ops rest Q (St.mk n0 ((d, (True, .itr d n)) :: env) ((d, ⟨iterTag, b, []⟩) :: bl))) : RG P G ops (⟨some d, .range t m, ty, pos, after, none⟩ :: rest) Q (St.mk n0 env bl) :=
  RG.effF rfl (EffF.fresh hfr (E_range hT rfl rfl (blt_lt hn) ht hk hm hl (fun e => by subst e; simp at hdn))) h
theorem S_next (K : KeyK P kt kc) {d i n b z : Nat} {x : Operand} {vc : γ → List Cell} {M : List (α × γ)} {seen : List Nat} [Inhabited α] [Inhabited γ] (hx : Ev (St.mk n0 env bl) True x (.itr i n)) (hi : lk bl i = some ⟨iterTag, b, seen.map irow⟩) (hl : lk bl n = some ⟨mapTag, z, M.map (mrow kc vc)⟩) (hn : Nat.blt d n0 = true)
    (h0 : (∀ j, j < M.length → j ∈ seen) → RG P G ops rest Q (St.mk n0 ((d, (True, .tup [.one (.bool false)])) :: env) bl))
    (h1 : ∀ j, j < M.length → j ∉ seen → RG P G ops rest Q (St.mk n0 ((d, (True, .tup [.one (.bool true), .one (kc (nth M j).1), mapPV z (vc (nth M j).2)])) :: env) ((i, ⟨iterTag, b, (seen ++ [j]).map irow⟩) :: bl))) :
    RG P G ops (⟨some d, .next x false, ty, pos, after, none⟩ :: rest) Q (St.mk n0 env bl) :=
  RG.effF rfl (E_next hT rfl rfl (blt_lt hn) hx hi hl K) fun s => by
    obtain ⟨s, hs⟩ := s
    cases s with
    | none => exact h0 hs
    | some j => exact h1 j hs.1 hs.2
theorem Q_entry {i n b z j : Nat} {x : Operand} {vc : γ → List Cell} {M : List (α × γ)} {seen : List Nat} [Inhabited α] [Inhabited γ] (hx : Ev (St.mk n0 env bl) p x (.itr i n)) (hi : lk bl i = some ⟨iterTag, b, (seen ++ [j]).map irow⟩) (hl : lk bl n = some ⟨mapTag, z, M.map (mrow kc vc)⟩) (hj : p → j < M.length) :
    PureOp P G (St.mk n0 env bl) ⟨dst, .entry x, ty, pos, after, gd⟩ p (.tup [.one (kc (nth M j).1), mapPV z (vc (nth M j).2)]) := P_entry hT rfl hx hi hl hj
end
theorem strAt {l : List UInt8} {k : Nat} (h : k < l.length) : 0 ≤ (k : Int) ∧ l[(k : Int).toNat]? = some (nth l k) := by
  refine ⟨Int.natCast_nonneg k, ?_⟩
  simp [List.getElem?_eq_getElem h, nth, List.getD]
/-- arguments, and behind them what a function value holds -/
def EvA (A : St) (p : Prop) (caps : List Cell) : List Operand → List PV → Prop
  | [], qs => qs = caps.map PV.one
  | x :: xs, q :: qs => (∃ r, Ev A p x (.pv r) ∧ PSub r q) ∧ EvA A p caps xs qs
  | _, _ => False
theorem EvA.nil {A : St} {p : Prop} {caps : List Cell} {qs : List PV} (h : qs = caps.map PV.one) : EvA A p caps [] qs := h
theorem EvA.cons {A : St} {p : Prop} {caps : List Cell} {x : Operand} {xs : List Operand} {q r : PV} {qs : List PV} (h : Ev A p x (.pv r)) (hs : PSub r q) (ht : EvA A p caps xs qs) : EvA A p caps (x :: xs) (q :: qs) := ⟨⟨r, h, hs⟩, ht⟩
theorem EvA.split {A : St} {p : Prop} {caps : List Cell} : ∀ {xs : List Operand} {as : List PV}, EvA A p caps xs as → ∃ ps, as = ps ++ caps.map PV.one ∧ EvD A p xs ps
  | [], qs, h => ⟨[], h, trivial⟩
  | x :: xs, q :: qs, ⟨h1, h2⟩ => by
    obtain ⟨ps, rfl, h3⟩ := EvA.split h2
    exact ⟨q :: ps, rfl, h1, h3⟩
theorem Q_callvA {P : Program} {G : Ghost} {n0 : Nat} {env : List (Nat × (Prop × AV))} {bl : List (Nat × Blk)} {p : Prop} {dst : Option Nat} {ty : TypeId} {pos : String} {after : Array Edge} {gd : Option (Nat × Bool)} {f : FuncId} {x : Operand} {caps : List Cell} {xs : List Operand} {ats : Array TypeId} {as : List PV} {r : AV}
    (hc : ACalls P f as r) (hc0 : Ev (St.mk n0 env bl) p x (.pv (.one (.fn f caps)))) (hx : EvA (St.mk n0 env bl) p caps xs as) : PureOp P G (St.mk n0 env bl) ⟨dst, .call ⟨.value x, xs.toArray, ats⟩, ty, pos, after, gd⟩ p r := by
  obtain ⟨ps, rfl, h⟩ := hx.split
  exact Q_callvd hc0 h hc.fn fun _ => hc
/-- the rows of an own block stand still from here on; a function value that holds pointers into it -/
theorem S_makeFuncF {P : Program} {G : Ghost} {ops : Array Oper} {rest : List Oper} {Q : St → Prop} {n0 : Nat} {env : List (Nat × (Prop × AV))} {bl : List (Nat × Blk)} {ty : TypeId} {pos : String} {after : Array Edge} {d f : Nat} {xs : List Operand} {cs : List Cell} (hx : EvC (St.mk n0 (frzE bl env) []) True xs cs) (hn : Nat.blt d n0 = true)
    (h : RG P G ops rest Q (St.mk n0 ((d, (True, .pv (.one (.fn f cs)))) :: frzE bl env) [])) : RG P G ops (⟨some d, .makeFunc (.func f) #[] xs.toArray, ty, pos, after, none⟩ :: rest) Q (St.mk n0 env bl) :=
  RG.weaken Le.freeze (U_ (Q_makeFunc hx) hn h)
theorem nth_mem {α : Type} [Inhabited α] {l : List α} {k : Nat} (h : k < l.length) : nth l k ∈ l := by
  rw [nth, List.getD, List.getElem?_eq_getElem h]; exact List.getElem_mem h
end Lf
