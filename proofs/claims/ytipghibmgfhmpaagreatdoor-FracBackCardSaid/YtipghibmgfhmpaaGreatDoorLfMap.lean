/-
  Maps that the call makes: make, store, look-up, and a range whose order is open.
-/
import Derived.Test.YtipghibmgfhmpaaGreatDoorLfFun
import Derived.Maps.RangeRun
import Derived.MapKept
set_option linter.unusedVariables false
set_option linter.unusedSimpArgs false
set_option linter.unusedSectionVars false
namespace Lf
open Go Go.RowKit
open Go.ChangeMaps (setBlock)
open Go.MapKept (IsKey sameNow_of_keys run_checkKey run_findKey run_keyThatStays run_getObj_map run_setObj_map)

/-! ### Effects with more than one outcome -/
section
variable {P : Program} {G : Ghost} {A : St}
def EffF (P : Program) (G : Ghost) (A : St) (o : Oper) {σ : Type _} (F : σ → St) : Prop :=
  ∀ Φ β a w, Sat G Φ β A a w → o.wp P a w (fun a' w' => ∃ s Φ' β', Sat G Φ' β' (F s) a' w' ∧ Φ.le Φ') (fun _ _ _ => False)
theorem RG.effF {σ : Type _} {ops : Array Oper} {o : Oper} {rest : List Oper} {Q : St → Prop} {F : σ → St} (hg : o.guard = none) (hp : EffF P G A o F) (h : ∀ s, RG P G ops rest Q (F s)) : RG P G ops (o :: rest) Q A := fun Φ β a w hs Q' hq => by
  refine wpList_plain hg fun K hK => Oper.wp_mono' (hp Φ β a w hs) (fun a' w' ⟨s, Φ', β', hs', hle⟩ => hK _ _ ?_) (fun _ _ _ h => h.elim)
  exact h s Φ' β' a' w' hs' Q' fun A1 Φ1 β1 a1 w1 q s l => hq A1 Φ1 β1 a1 w1 q s (Frz.le_trans hle l)
theorem EffF.of_val {o : Oper} {σ : Type _} {F : σ → St} (h : ∀ Φ β a w, Sat G Φ β A a w → ∃ u w' s Φ' β', (execOp a.eval o).run P w = .ok (.value u) w' ∧ Sat G Φ' β' (F s) (a.put o.dst u) w' ∧ Φ.le Φ') : EffF P G A o F := fun Φ β a w hs => by
  obtain ⟨u, w', s, Φ', β', h1, h2, h3⟩ := h Φ β a w hs
  unfold Oper.wp
  rw [h1]
  exact ⟨s, Φ', β', h2, h3⟩
end

section
variable {P : Program} {G : Ghost} {A : St} {Φ : Frz} {β : Own} {a : Act} {w w' : World}

/-- The object of a name (a map, an iterator) is turned. -/
theorem Sat.turnO (hs : Sat G Φ β A a w) {n b cap : Nat} {B B' : Blk} (h1 : lk A.blks n = some B) (h2 : β n = some (b, cap)) (hob : B.ob = true) (hE : B'.E = B.E) (hz : B'.sz = B.sz)
    (hlen : B.E = mapTag → B'.rows.length = B.rows.length ∨ ∀ t q d, lk A.env t ≠ some (q, .itr d n)) (hg : w.grownBy w' (some b)) (hB : BlkRel Φ w' b cap B') :
    Sat G Φ β { A with blks := (n, B') :: A.blks } a w' := by
  obtain ⟨gB, gK, gP⟩ := hs.blk n B b cap h1 h2
  have hl : ∀ m, m ≠ n → lk ((n, B') :: A.blks) m = lk A.blks m := fun m hm => by rw [lk_cons, if_neg (Ne.symm hm)]
  have hl0 : lk ((n, B') :: A.blks) n = some B' := by rw [lk_cons, if_pos rfl]
  have hne : ∀ k, k ≠ b → some k ≠ some b := fun k h e => h (Option.some.inj e)
  refine ⟨⟨hg.os.trans hs.kept.os, hg.tape.trans hs.kept.tape, hg.output.trans hs.kept.output, Nat.le_trans hs.kept.size hg.size, fun k hk => ?_⟩, fun k c hk => ?_, hs.old, hs.siz, hs.dfr, fun t q v h => ?_, fun m C b' cap' k1 k2 => ?_, fun m C k1 k2 => ?_, fun m m' B1 B2 b' c1 c2 k1 k2 k3 k4 => ?_⟩
  · rw [hg.block k (Nat.lt_of_lt_of_le (G.lt k hk) hs.kept.size) (fun e => gK ((Option.some.inj e) ▸ hk))]; exact hs.kept.block k hk
  · obtain ⟨E, fz, h⟩ := hs.fits k c hk
    exact ⟨E, fz, by rw [hg.block k (Array.getElem?_eq_some_iff.1 h).1 (fun e => by have := Option.some.inj e; subst this; rw [gP] at hk; cases hk)]; exact h⟩
  · refine ⟨fun hq => ?_, (hs.env t q v h).2⟩
    have h3 := (hs.env t q v h).1 hq
    cases v with
    | pv p => exact h3
    | tup l => exact h3
    | top => trivial
    | addr m i off =>
      obtain ⟨b', cap', C, k1, k2, k3, k4⟩ := h3
      have e : m ≠ n := fun e => by
        subst e; rw [h1] at k2; obtain rfl := Option.some.inj k2; rw [k3] at hob; cases hob
      exact ⟨b', cap', C, k1, by rw [hl m e]; exact k2, k3, k4⟩
    | pin m b0 c0 f =>
      obtain ⟨C, k1, k2, k3, k4⟩ := h3
      have e : m ≠ n := fun e => by
        subst e; rw [h1] at k2; obtain rfl := Option.some.inj k2; rw [k3] at hob; cases hob
      exact ⟨C, k1, by rw [hl m e]; exact k2, k3, k4⟩
    | slc m =>
      obtain ⟨C, k2, k3, k4⟩ := h3
      have e : m ≠ n := fun e => by
        subst e; rw [h1] at k2; obtain rfl := Option.some.inj k2; rw [k3] at hob; cases hob
      exact ⟨C, by rw [hl m e]; exact k2, k3, k4⟩
    | mp m =>
      obtain ⟨b', cap', C, k1, k2, k3, k4⟩ := h3
      by_cases e : m = n
      · subst e
        rw [h1] at k2; obtain rfl := Option.some.inj k2
        exact ⟨b', cap', B', k1, hl0, hE.trans k3, k4⟩
      · exact ⟨b', cap', C, k1, by rw [hl m e]; exact k2, k3, k4⟩
    | itr d m =>
      obtain ⟨b', cap', C, M, c, k1, k2, k3, k4, k5, k6, k7, k8⟩ := h3
      have hC : ∃ C', lk ((n, B') :: A.blks) d = some C' ∧ C'.E = C.E ∧ C'.sz = C.sz := by
        by_cases e : d = n
        · subst e
          rw [h1] at k2; obtain rfl := Option.some.inj k2
          exact ⟨B', hl0, hE, hz⟩
        · exact ⟨C, by rw [hl d e]; exact k2, rfl, rfl⟩
      have hM : ∃ M', lk ((n, B') :: A.blks) m = some M' ∧ M'.E = M.E ∧ M'.rows.length = M.rows.length := by
        by_cases e : m = n
        · subst e
          rw [h1] at k5; obtain rfl := Option.some.inj k5
          rcases hlen k6 with hx | hx
          · exact ⟨B', hl0, hE, hx⟩
          · exact (hx t q d h).elim
        · exact ⟨M, by rw [hl m e]; exact k5, rfl, rfl⟩
      obtain ⟨C', c1, c2, c3⟩ := hC
      obtain ⟨M', m1, m2, m3⟩ := hM
      exact ⟨b', cap', C', M', c, k1, c1, c2.trans k3, by rw [c3]; exact k4, m1, m2.trans k6, m3.trans k7, k8⟩
  · by_cases e : m = n
    · subst e
      rw [hl0] at k1; obtain rfl := Option.some.inj k1
      rw [h2] at k2
      simp only [Option.some.injEq, Prod.mk.injEq] at k2
      obtain ⟨rfl, rfl⟩ := k2
      exact ⟨hB, gK, gP⟩
    · rw [hl m e] at k1
      obtain ⟨g1, g2, g3⟩ := hs.blk m C b' cap' k1 k2
      exact ⟨g1.keep Φ.le_refl (hg.block b' g1.lt (fun e2 => e (hs.inj m n C B b' cap' cap k1 h1 k2 (by rw [Option.some.inj e2]; exact h2)))), g2, g3⟩
  · by_cases e : m = n
    · subst e; rw [h2] at k2; cases k2
    · rw [hl m e] at k1; exact hs.vir m C k1 k2
  · have hx : ∀ m C, lk ((n, B') :: A.blks) m = some C → ∃ C', lk A.blks m = some C' := fun m C h => by
      by_cases e : m = n
      · subst e; exact ⟨B, h1⟩
      · rw [hl m e] at h; exact ⟨C, h⟩
    obtain ⟨C1, x1⟩ := hx m B1 k1
    obtain ⟨C2, x2⟩ := hx m' B2 k2
    exact hs.inj m m' C1 C2 b' c1 c2 x1 x2 k3 k4

/-! ### Keys -/
def mput {α γ : Type} [DecidableEq α] : List (α × γ) → α → γ → List (α × γ)
  | [], k, v => [(k, v)]
  | (a, x) :: r, k, v => if a = k then (k, v) :: r else (a, x) :: mput r k v
def mget {α γ : Type} [DecidableEq α] : List (α × γ) → α → Option γ
  | [], _ => none
  | (a, x) :: r, k => if a = k then some x else mget r k
/-- Keys of one kind. -/
structure KeyK (P : Program) (kt : TypeId) {α : Type} [DecidableEq α] (kc : α → Cell) : Prop where
  und : ∃ d, P.underlying kt = some d ∧ ∀ (Φ : Frz) (v : Value) (a : α), Rel Φ v (kc a) → IsKey d v
  eq : ∀ (Φ : Frz) (u v : Value) (a b : α), Rel Φ u (kc a) → Rel Φ v (kc b) → (u = v ↔ a = b)
abbrev kI (n : Int) : Cell := .int .i64 n
abbrev kS (s : List UInt8) : Cell := .str s
theorem rel_str {Φ : Frz} {v : Value} {s : List UInt8} (h : Rel Φ v (.str s)) : v = .string ⟨s.toArray⟩ := by
  generalize hx : Cell.str s = x at h
  cases h <;> cases hx
  rfl
theorem KeyK.int {P : Program} {kt : TypeId} (h : P.underlying kt = some (.int .i64)) : KeyK P kt kI where
  und := ⟨_, h, fun Φ v a h1 => by cases h1; rfl⟩
  eq := fun Φ u v a b h1 h2 => by cases h1; cases h2; simp
theorem KeyK.str {P : Program} {kt : TypeId} (h : P.underlying kt = some .string) : KeyK P kt kS where
  und := ⟨_, h, fun Φ v a h1 => by rw [rel_str h1]; trivial⟩
  eq := fun Φ u v a b h1 h2 => by
    rw [rel_str h1, rel_str h2]
    constructor
    · intro e; simpa using e
    · intro e; rw [e]

variable {α γ : Type} [DecidableEq α] {kc : α → Cell} {kt : TypeId}
/-- the rows of a map -/
def mrow (kc : α → Cell) (vc : γ → List Cell) (p : α × γ) : List Cell := kc p.1 :: vc p.2
def EntL (Φ : Frz) (kc : α → Cell) : List MapEntry → List (α × γ) → Prop
  | [], [] => True
  | e :: es, p :: M => Rel Φ e.key (kc p.1) ∧ EntL Φ kc es M
  | _, _ => False
theorem EntL.len : ∀ {es : List MapEntry} {M : List (α × γ)}, EntL Φ kc es M → es.length = M.length
  | [], [], _ => rfl
  | _ :: _, _ :: _, h => by simp [EntL.len h.2]
theorem find_map (K : KeyK P kt kc) {v : Value} {k : α} (hv : Rel Φ v (kc k)) (y : γ) {d : TypeDesc} (hd : ∀ (u : Value) (b : α), Rel Φ u (kc b) → IsKey d u) : ∀ (es : List MapEntry) (M : List (α × γ)) (i : Nat), EntL Φ kc es M →
    (∃ j e x, Instr.findNow d v es i = some (some (i + j, e.val)) ∧ es[j]? = some e ∧ e.key = v ∧ M[j]? = some (k, x) ∧ mput M k y = M.set j (k, y) ∧ mget M k = some x) ∨ (Instr.findNow d v es i = some none ∧ mput M k y = M ++ [(k, y)] ∧ mget M k = none)
  | [], [], i, _ => .inr ⟨rfl, rfl, rfl⟩
  | e :: es, (a, x) :: M, i, ⟨h1, h2⟩ => by
    obtain ⟨r, hr, hiff⟩ := sameNow_of_keys (hd v k hv) (hd e.key a h1)
    have hea := K.eq Φ v e.key k a hv h1
    simp only [Instr.findNow, hr]
    by_cases he : k = a
    · subst he
      have hve := hea.2 rfl
      have : r = true := hiff.2 hve
      subst this
      exact .inl ⟨0, e, x, by simp, rfl, hve.symm, rfl, by simp [mput], by simp [mget]⟩
    · have he' : ¬ a = k := fun h => he h.symm
      have : r = false := by
        cases r with
        | false => rfl
        | true => exact (he (hea.1 (hiff.1 rfl))).elim
      subst this
      simp only [mput, mget, if_neg he']
      rcases find_map K hv y hd es M (i + 1) h2 with ⟨j, e', x', g1, g2, gk, g3, g4, g5⟩ | ⟨g1, g2, g3⟩
      · exact .inl ⟨j + 1, e', x', by rw [g1]; congr 3; omega, by simpa using g2, gk, by simpa using g3, by simp [g4], g5⟩
      · exact .inr ⟨g1, by simp [g2], g3⟩

/-- what a map's block says -/
structure MapAt (Φ : Frz) (w : World) (b z : Nat) (kc : α → Cell) (vc : γ → List Cell) (M : List (α × γ)) (es : Array MapEntry) : Prop where
  heap : w.heap[b]? = some (.map es es.size)
  size : es.size = M.length
  ent : ∀ (i : Nat) (e : MapEntry) (p : α × γ), es[i]? = some e → M[i]? = some p → e.born = i ∧ Rel Φ e.key (kc p.1) ∧ PRel Φ e.val (mapPV z (vc p.2))
theorem map_ob {z : Nat} {rows : List (List Cell)} : Blk.ob ⟨mapTag, z, rows⟩ = true := ob_map rfl
theorem iter_ob {z : Nat} {rows : List (List Cell)} : Blk.ob ⟨iterTag, z, rows⟩ = true := ob_iter rfl
theorem tags : mapTag ≠ iterTag := by decide
theorem MapAt.of {vc : γ → List Cell} {b cap z : Nat} {M : List (α × γ)} (h : BlkRel Φ w b cap ⟨mapTag, z, M.map (mrow kc vc)⟩) : ∃ es, MapAt Φ w b z kc vc M es := by
  rcases h.obj map_ob with ⟨_, es, h1, h2, h3⟩ | ⟨h, _⟩
  · refine ⟨es, h1, by simpa using h2, fun i e p a b => ?_⟩
    obtain ⟨g1, k, vs, g2, g3, g4⟩ := h3 i e (mrow kc vc p) a (by simp [b])
    unfold mrow at g2
    injection g2 with e1 e2
    subst e1 e2
    exact ⟨g1, g3, g4⟩
  · exact absurd h tags
theorem MapAt.blk {vc : γ → List Cell} {b cap z : Nat} {M : List (α × γ)} {es : Array MapEntry} (h : MapAt Φ w b z kc vc M es) : BlkRel Φ w b cap ⟨mapTag, z, M.map (mrow kc vc)⟩ := by
  refine .inr ⟨map_ob, .inl ⟨rfl, es, h.heap, by simpa using h.size, fun i e r a b => ?_⟩⟩
  simp only [List.getElem?_map, Option.map_eq_some_iff] at b
  obtain ⟨p, hp, rfl⟩ := b
  obtain ⟨g1, g2, g3⟩ := h.ent i e p a hp
  exact ⟨g1, _, _, rfl, g2, g3⟩
theorem MapAt.entL {vc : γ → List Cell} {b z : Nat} {M : List (α × γ)} {es : Array MapEntry} (h : MapAt Φ w b z kc vc M es) : EntL Φ kc es.toList M := by
  have key : ∀ (l : List MapEntry) (M : List (α × γ)), l.length = M.length → (∀ (i : Nat) (e : MapEntry) (p : α × γ), l[i]? = some e → M[i]? = some p → Rel Φ e.key (kc p.1)) → EntL Φ kc l M := by
    intro l
    induction l with
    | nil => intro M hl _; cases M with
      | nil => trivial
      | cons p M => simp at hl
    | cons e l ih => intro M hl hg; cases M with
      | nil => simp at hl
      | cons p M => exact ⟨hg 0 e p rfl rfl, ih M (by simpa using hl) fun i e' p' a b => hg (i + 1) e' p' (by simpa using a) (by simpa using b)⟩
  exact key _ _ (by simpa using h.size) fun i e p a b => (h.ent i e p (by simpa using a) b).2.1

theorem run_find (K : KeyK P kt kc) {vc : γ → List Cell} {b z : Nat} {M : List (α × γ)} {es : Array MapEntry} (h : MapAt Φ w b z kc vc M es) {v : Value} {k : α} (hv : Rel Φ v (kc k)) (y : γ) :
    (∃ j e x, (Instr.findKey kt v es.toList).run P w = .ok (some (j, e.val)) w ∧ es[j]? = some e ∧ e.key = v ∧ M[j]? = some (k, x) ∧ mput M k y = M.set j (k, y) ∧ mget M k = some x) ∨ ((Instr.findKey kt v es.toList).run P w = .ok none w ∧ mput M k y = M ++ [(k, y)] ∧ mget M k = none) := by
  obtain ⟨d, h1, h2⟩ := K.und
  rcases find_map (P := P) (kt := kt) K hv y (d := d) (fun u b hu => h2 Φ u b hu) es.toList M 0 h.entL with ⟨j, e, x, g1, g2, gk, g3, g4, g5⟩ | ⟨g1, g2, g3⟩
  · exact .inl ⟨j, e, x, run_findKey h1 (by simpa using g1), by simpa using g2, gk, g3, g4, g5⟩
  · exact .inr ⟨run_findKey h1 g1, g2, g3⟩

variable {T : TT} (hT : TOK P T)
include hT

theorem E_makeMap {o : Oper} {t k e d z : Nat} {ti : TI} (ho : o.op = .makeMap t none) (hd : o.dst = some d) (hn : d < A.n) :
    EffOp P G A o ((A.bind d d ⟨mapTag, z, []⟩).set d True (.mp d)) := EffOp.of_val fun Φ β a w hs => by
  obtain ⟨h1, h2, h3⟩ := hs.new_ok
  have hrun : (execOp a.eval o).run P w = .ok (.value (.map (some w.heap.size))) (w.alloc (.map #[] 0)) :=
    exec_val (m := Instr.makeMap t none) (by simp only [execOp, ho]; rfl) (by simp [Instr.makeMap, newObj, Sem.run])
  refine ⟨_, _, Φ, bindOwn β d d w.heap.size 0, hrun, ?_, Φ.le_refl⟩
  rw [hd]
  have hb := hs.bind (w' := w.alloc (.map #[] 0)) (d := d) (n := d) (b := w.heap.size) (cap := 0) (B := ⟨mapTag, z, []⟩) (row := none) (w.grownBy_alloc _ none) (fun k e => by cases e)
    (.inr ⟨map_ob, .inl ⟨rfl, #[], heap_alloc_new w _, rfl, fun i e r h => by simp at h⟩⟩) h1 h2 (fun m B' cap' _ _ h => h3 m B' cap' h)
  exact hb.put hn ⟨w.heap.size, 0, ⟨mapTag, z, []⟩, by simp [bindOwn], by simp only [St.bind]; rw [lk_cons, if_pos rfl], rfl, rfl⟩

theorem exec_u {ρ : Operand → Value} {o : Oper} {m : Sem Unit} {w w' : World} (ho : execOp ρ o = (do m; pure .skip)) (h : m.run P w = .ok () w') : (execOp ρ o).run P w = .ok .skip w' := by
  rw [ho, Sem.run_bind, h]; rfl

/-- no iterator over n in a slot -/
def AV.isItr (n : Nat) : AV → Bool
  | .itr _ m => Nat.beq m n
  | _ => false
def noItr (n : Nat) : List (Nat × (Prop × AV)) → Bool
  | [] => true
  | (_, (_, v)) :: r => bif v.isItr n then false else noItr n r
omit hT in
theorem noItr_at {n : Nat} : ∀ {env : List (Nat × (Prop × AV))}, noItr n env = true → ∀ t q d, lk env t ≠ some (q, .itr d n)
  | [], _, t, q, d, h => by simp [lk] at h
  | (s, (q0, v0)) :: r, hn, t, q, d, h => by
    rw [lk_cons] at h
    rw [noItr] at hn
    split at h
    · simp only [Option.some.injEq, Prod.mk.injEq] at h
      obtain ⟨_, rfl⟩ := h
      simp [AV.isItr] at hn
    · refine noItr_at (env := r) ?_ t q d h
      cases hb : v0.isItr n with
      | true => rw [hb] at hn; cases hn
      | false => rw [hb] at hn; exact hn

theorem E_mapUpdate {o : Oper} {t e n z : Nat} {m x y : Operand} {ti : TI} {vc : γ → List Cell} {M : List (α × γ)} {k : α} {v : γ} (K : KeyK P kt kc) (ho : o.op = .mapUpdate t m x y) (hd : o.dst = none) (ht : T t = some ti) (hk : ti.kind = .map kt e)
    (hm : Ev A True m (.mp n)) (hl : lk A.blks n = some ⟨mapTag, z, M.map (mrow kc vc)⟩) (hx : Ev A True x (.pv (.one (kc k)))) (hy : Ev A True y (.pv (mapPV z (vc v)))) (hni : noItr n A.env = true) :
    EffOp P G A o { A with blks := (n, ⟨mapTag, z, (mput M k v).map (mrow kc vc)⟩) :: A.blks } := EffOp.of_skip hd fun Φ β a w hs => by
  have hu : P.underlying t = some (.map kt e) := by have := (hT _ _ ht).kind; rw [hk] at this; exact this
  obtain ⟨b, cap, B', h1, h2, h3, h4⟩ := hs.ev hm trivial
  rw [hl] at h2
  obtain rfl := Option.some.inj h2
  obtain ⟨gB, gK, gP⟩ := hs.blk n _ b cap hl h1
  obtain ⟨es, hM⟩ := MapAt.of gB
  have hkey : Rel Φ (a.eval x) (kc k) := hs.ev hx trivial
  have hval : PRel Φ (a.eval y) (mapPV z (vc v)) := hs.ev hy trivial
  obtain ⟨d, hd1, hd2⟩ := K.und
  have hck := run_checkKey (w := w) hd1 (hd2 Φ _ k hkey) false 9999
  have hlt : b < w.heap.size := (Array.getElem?_eq_some_iff.1 hM.heap).1
  have fin : ∀ es' : Array MapEntry, (∀ (w'' : World), w''.heap[b]? = some (.map es' es'.size) → MapAt Φ w'' b z kc vc (mput M k v) es') → (Instr.mapUpdate t (a.eval m) (a.eval x) (a.eval y)).run P w = .ok () (setBlock w b (.map es' es'.size)) →
      ∃ w' Φ' β', (execOp a.eval o).run P w = .ok .skip w' ∧ Sat G Φ' β' { A with blks := (n, ⟨mapTag, z, (mput M k v).map (mrow kc vc)⟩) :: A.blks } a w' ∧ Φ.le Φ' := by
    intro es' hE hrun
    refine ⟨_, Φ, β, exec_u hT (m := Instr.mapUpdate t (a.eval m) (a.eval x) (a.eval y)) (by simp only [execOp, ho]) hrun, ?_, Φ.le_refl⟩
    refine hs.turnO hl h1 map_ob rfl rfl (fun _ => .inr (noItr_at hni)) ⟨rfl, rfl, rfl, by simp [setBlock], fun i hi hne => ?_⟩ (hE _ ?_).blk
    · have hne' : b ≠ i := fun e => hne (by rw [e])
      simp [setBlock, Array.getElem?_setIfInBounds_ne hne']
    · simp [setBlock, hlt]
  rcases run_find K hM hkey v with ⟨j, e0, x0, g1, g2, gk, g3, g4, g5⟩ | ⟨g1, g2, g3⟩
  · refine fin (es.modify j fun e => { e with key := a.eval x, val := a.eval y }) (fun w'' hw => ⟨hw, by simp [g4, hM.size], fun i e p q1 q2 => ?_⟩) ?_
    · rw [g4, List.getElem?_set] at q2
      rw [Array.getElem?_modify] at q1
      by_cases hij : j = i
      · subst hij
        rw [if_pos rfl] at q1 q2
        have hjl : j < M.length := (List.getElem?_eq_some_iff.1 g3).1
        rw [if_pos hjl] at q2
        rw [g2] at q1
        simp only [Option.map_some, Option.some.injEq] at q1 q2
        subst q1 q2
        exact ⟨(hM.ent j e0 (k, x0) g2 g3).1, hkey, hval⟩
      · rw [if_neg hij] at q1 q2
        exact hM.ent i e p q1 q2
    · have hst : (Instr.keyThatStays (((es[j]?).map (·.key)).getD (a.eval x)) (a.eval x)).run P w = .ok (a.eval x) w := by
        rw [g2]; simp only [Option.map_some, Option.getD_some, gk]
        exact run_keyThatStays (hd2 Φ _ k hkey)
      simp only [Instr.mapUpdate, Sem.run_bind, run_underlying hu, Result.andThen_ok, h4, run_getObj_map hM.heap, hck, g1, hst, run_setObj_map _ hM.heap]
      simp [setBlock]
  · refine fin (es.push { key := a.eval x, val := a.eval y, born := es.size }) (fun w'' hw => ⟨hw, by simp [g2, hM.size], fun i e p q1 q2 => ?_⟩) ?_
    · rw [g2] at q2
      rw [Array.getElem?_push] at q1
      split at q1
      · rename_i hi
        simp only [Option.some.injEq] at q1
        subst q1
        rw [hi, hM.size, List.getElem?_append_right (Nat.le_refl _)] at q2
        simp at q2
        subst q2
        exact ⟨hi.symm, hkey, hval⟩
      · rename_i hi
        have hil := (Array.getElem?_eq_some_iff.1 q1).1
        rw [List.getElem?_append_left (by rw [← hM.size]; exact hil)] at q2
        exact hM.ent i e p q1 q2
    · simp only [Instr.mapUpdate, Sem.run_bind, run_underlying hu, Result.andThen_ok, h4, run_getObj_map hM.heap, hck, g1, run_setObj_map _ hM.heap]
      simp [setBlock]

theorem P_lookup {o : Oper} {p : Prop} {t e n z : Nat} {m x : Operand} {c : Bool} {ti te : TI} {vc : γ → List Cell} {M : List (α × γ)} {k : α} (K : KeyK P kt kc) (ho : o.op = .lookup t m x c) (ht : T t = some ti) (hk : ti.kind = .map kt e) (he : T e = some te)
    (hm : Ev A p m (.mp n)) (hl : lk A.blks n = some ⟨mapTag, z, M.map (mrow kc vc)⟩) (hx : Ev A p x (.pv (.one (kc k)))) {r : PV} (hr : (match mget M k with | some v => mapPV z (vc v) | none => te.zero) = r) :
    PureOp P G A o p (bif c then .tup [r, .one (.bool (mget M k).isSome)] else .pv r) := PureOp.val fun Φ β a w hs hp => by
  have hu : P.underlying t = some (.map kt e) := by have := (hT _ _ ht).kind; rw [hk] at this; exact this
  obtain ⟨b, cap, B', h1, h2, h3, h4⟩ := hs.ev hm hp
  rw [hl] at h2
  obtain rfl := Option.some.inj h2
  obtain ⟨gB, gK, gP⟩ := hs.blk n _ b cap hl h1
  obtain ⟨es, hM⟩ := MapAt.of gB
  have hkey : Rel Φ (a.eval x) (kc k) := hs.ev hx hp
  obtain ⟨d, hd1, hd2⟩ := K.und
  have hck := run_checkKey (w := w) hd1 (hd2 Φ _ k hkey) es.isEmpty 9999
  obtain ⟨i, hi, hisz, hib, zv, hzz, hrel⟩ := (hT e te he).info
  have hz : (zeroValue e).run P w = .ok zv w := by simp [zeroValue, typeInfo, hi, hzz]
  have fin : ∀ v ok, (Instr.lookup t (a.eval m) (a.eval x) c).run P w = .ok (if c then .tuple #[v, .bool ok] else v) w → PRel Φ v r → ok = (mget M k).isSome →
      ∃ u, (execOp a.eval o).run P w = .ok (.value u) w ∧ AVRel Φ β A.blks u (bif c then .tup [r, .one (.bool (mget M k).isSome)] else .pv r) := by
    intro v ok hrun hv hok
    refine ⟨_, exec_val (m := Instr.lookup t (a.eval m) (a.eval x) c) (by simp only [execOp, ho]) hrun, ?_⟩
    cases c with
    | false => exact hv
    | true =>
      refine ⟨_, rfl, rfl, fun j p hj => ?_⟩
      match j with
      | 0 => simp at hj; subst hj; exact ⟨_, rfl, hv⟩
      | 1 => simp at hj; subst hj; rw [← hok]; exact ⟨_, rfl, Rel.bool _⟩
      | j + 2 => simp at hj
  cases hg : mget M k with
  | some v =>
    rw [hg] at hr fin
    rcases run_find K hM hkey v with ⟨j, e0, x0, g1, g2, gk, g3, g4, g5⟩ | ⟨g1, g2, g3⟩
    · refine fin e0.val true ?_ ?_ rfl
      · simp only [Instr.lookup, Sem.run_bind, run_underlying hu, Result.andThen_ok, h4, run_getObj_map hM.heap, hck, g1, Sem.run_pure]
      · rw [hg] at g5
        obtain rfl := Option.some.inj g5
        rw [← hr]
        exact (hM.ent j e0 _ g2 g3).2.2
    · rw [g3] at hg; cases hg
  | none =>
    rw [hg] at hr fin
    by_cases hne : Nonempty γ
    · obtain ⟨y⟩ := hne
      rcases run_find K hM hkey y with ⟨j, e0, x0, g1, g2, gk, g3, g4, g5⟩ | ⟨g1, g2, g3⟩
      · rw [g5] at hg; cases hg
      · refine fin zv false ?_ ?_ rfl
        · simp only [Instr.lookup, Sem.run_bind, run_underlying hu, Result.andThen_ok, h4, run_getObj_map hM.heap, hck, g1, Sem.run_pure, hz]
        · rw [← hr]; exact hrel Φ
    · have hM0 : M = [] := by
        cases M with
        | nil => rfl
        | cons p M => exact (hne ⟨p.2⟩).elim
      subst hM0
      have hes : es = #[] := Array.eq_empty_of_size_eq_zero (by simpa using hM.size)
      subst hes
      refine fin zv false ?_ ?_ rfl
      · have g1 : (Instr.findKey kt (a.eval x) (#[] : Array MapEntry).toList).run P w = .ok none w := run_findKey hd1 rfl
        simp only [Instr.lookup, Sem.run_bind, run_underlying hu, Result.andThen_ok, h4, run_getObj_map hM.heap, hck, g1, Sem.run_pure, hz]
      · rw [← hr]; exact hrel Φ

/-! ### A range over a map -/
def irow (i : Nat) : List Cell := [.int .i64 (i : Int)]
omit hT in
theorem irow_inj {l l' : List Nat} (h : l.map irow = l'.map irow) : l = l' := by
  induction l generalizing l' with
  | nil => cases l' with
    | nil => rfl
    | cons a l' => simp at h
  | cons a l ih => cases l' with
    | nil => simp at h
    | cons b l' =>
      simp only [List.map_cons, List.cons.injEq, irow, Cell.int.injEq, true_and, and_true] at h
      obtain ⟨h1, h2⟩ := h
      rw [ih h2, Int.ofNat.inj h1]

theorem E_range {o : Oper} {t e d n : Nat} {m : Operand} {ti : TI} {B : Blk} (ho : o.op = .range t m) (hd : o.dst = some d) (hn : d < A.n) (ht : T t = some ti) (hk : ti.kind = .map kt e) (hm : Ev A True m (.mp n)) (hl : lk A.blks n = some B) (hdn : d ≠ n) :
    EffF P G A o (fun b : Nat => (A.bind d d ⟨iterTag, b, []⟩).set d True (.itr d n)) := EffF.of_val fun Φ β a w hs => by
  have hu : P.underlying t = some (.map kt e) := by have := (hT _ _ ht).kind; rw [hk] at this; exact this
  obtain ⟨b, cap, B', h1, h2, h3, h4⟩ := hs.ev hm trivial
  rw [hl] at h2
  obtain rfl := Option.some.inj h2
  obtain ⟨gB, gK, gP⟩ := hs.blk n _ b cap hl h1
  obtain ⟨es, q1, q2⟩ : ∃ es : Array MapEntry, w.heap[b]? = some (.map es es.size) ∧ es.size = B.rows.length := by
    rcases gB.obj (ob_map h3) with ⟨_, es, q1, q2, _⟩ | ⟨q, _⟩
    · exact ⟨es, q1, q2⟩
    · rw [h3] at q; exact absurd q tags
  have hrun : (execOp a.eval o).run P w = .ok (.value (.pointer (some ⟨w.heap.size, 0, none⟩))) (w.alloc (.mapIter (some b) es.size #[] es.size)) :=
    exec_val (m := Instr.range t (a.eval m)) (by simp only [execOp, ho]) (by simp [Instr.range, run_underlying hu, h4, run_getObj_map q1, newObj, Sem.run])
  obtain ⟨k1, k2, k3⟩ := hs.new_ok
  have hb := hs.bind (w' := w.alloc (.mapIter (some b) es.size #[] es.size)) (d := d) (n := d) (b := w.heap.size) (cap := es.size) (B := ⟨iterTag, b, []⟩) (row := none) (w.grownBy_alloc _ none) (fun k e => by cases e)
    (.inr ⟨iter_ob, .inr ⟨rfl, #[], heap_alloc_new w _, rfl⟩⟩) k1 k2 (fun m B' cap' _ _ h => k3 m B' cap' h)
  refine ⟨_, _, b, Φ, bindOwn β d d w.heap.size es.size, hrun, ?_, Φ.le_refl⟩
  rw [hd]
  refine hb.put hn ⟨w.heap.size, es.size, ⟨iterTag, b, []⟩, B, cap, by simp [bindOwn], by simp only [St.bind]; rw [lk_cons, if_pos rfl], rfl, ?_, ?_, h3, q2.symm, rfl⟩
  · have : n ≠ d := fun e => hdn e.symm
    simp [bindOwn, this, h1]
  · simp only [St.bind]; rw [lk_cons, if_neg hdn, lk_cons, if_neg hdn]; exact hl

/-- What a step of the range finds: nothing left, or an entry not shown yet. -/
theorem E_next {o : Oper} {d i n b z : Nat} {x : Operand} {vc : γ → List Cell} {M : List (α × γ)} {seen : List Nat} [Inhabited α] [Inhabited γ] (ho : o.op = .next x false) (hd : o.dst = some d) (hn : d < A.n) (hx : Ev A True x (.itr i n))
    (hi : lk A.blks i = some ⟨iterTag, b, seen.map irow⟩) (hl : lk A.blks n = some ⟨mapTag, z, M.map (mrow kc vc)⟩) (K : KeyK P kt kc) :
    EffF P G A o (fun s : { s : Option Nat // match s with | none => ∀ j, j < M.length → j ∈ seen | some j => j < M.length ∧ j ∉ seen } => match s.1 with
      | none => A.set d True (.tup [.one (.bool false)])
      | some j => St.set { A with blks := (i, ⟨iterTag, b, (seen ++ [j]).map irow⟩) :: A.blks } d True (.tup [.one (.bool true), .one (kc (nth M j).1), mapPV z (vc (nth M j).2)])) := EffF.of_val fun Φ β a w hs => by
  obtain ⟨r, since, C, M', c, h1, h2, h3, h4, h5, h6, h7, h8⟩ := hs.ev hx trivial
  rw [hi] at h2
  obtain rfl := Option.some.inj h2
  rw [hl] at h5
  obtain rfl := Option.some.inj h5
  simp only at h4
  obtain ⟨gM, _, _⟩ := hs.blk n _ b c hl h4
  obtain ⟨gI, gK, gP⟩ := hs.blk i _ r since hi h1
  obtain ⟨es, hM⟩ := MapAt.of gM
  obtain ⟨sn, s1, s2⟩ : ∃ sn : Array Nat, w.heap[r]? = some (.mapIter (some b) since sn since) ∧ sn.toList = seen := by
    rcases gI.obj iter_ob with ⟨q, _⟩ | ⟨_, sn, q1, q2⟩
    · exact absurd q.symm tags
    · exact ⟨sn, q1, (irow_inj q2).symm⟩
  have hsz : es.size = since := by rw [hM.size]; simpa using h7
  have hborn : ∀ (j : Nat) (e : MapEntry), es[j]? = some e → e.born = j := fun j e he => by
    have hj := (Array.getElem?_eq_some_iff.1 he).1
    exact (hM.ent j e (M[j]'(by rw [← hM.size]; exact hj)) he (List.getElem?_eq_getElem _)).1
  have hold : ∀ e ∈ es.toList, e.born < since := fun e he => by
    obtain ⟨j, hj⟩ := List.getElem?_of_mem he
    have hj' : es[j]? = some e := by simpa using hj
    rw [hborn j e hj', ← hsz]
    exact (Array.getElem?_eq_some_iff.1 hj').1
  have hex : ∀ u w', (Instr.next (.pointer (some ⟨r, 0, none⟩)) false o.type).run P w = .ok u w' → (execOp a.eval o).run P w = .ok (.value u) w' := fun u w' h =>
    exec_val (m := Instr.next (a.eval x) false o.type) (by simp only [execOp, ho]) (by rw [h8]; exact h)
  rcases run_next_at w o.type r b since since sn es es.size s1 hM.heap hold (Nat.le_refl _) with ⟨hleft, hrun⟩ | ⟨e, he, w1, hw1, hrun⟩
  · refine ⟨_, _, ⟨none, fun j hj => ?_⟩, Φ, β, hex _ _ hrun, ?_, Φ.le_refl⟩
    · have hjs : j < es.size := by rw [hM.size]; exact hj
      by_cases hc : j ∈ seen
      · exact hc
      · exfalso
        have : es[j] ∈ leftOf es sn := by
          unfold leftOf
          rw [Array.mem_filter]
          refine ⟨Array.getElem_mem hjs, ?_⟩
          rw [hborn j es[j] (Array.getElem?_eq_getElem hjs)]
          cases hb : sn.contains j with
          | false => rfl
          | true => exact (hc (by rw [← s2]; simpa using hb)).elim
        have h0 : leftOf es sn = #[] := Array.eq_empty_of_size_eq_zero hleft
        rw [h0] at this
        simp at this
    · rw [hd]
      exact hs.put hn ⟨_, rfl, rfl, fun j p hj => by
        match j with
        | 0 => simp at hj; subst hj; exact ⟨_, rfl, Rel.bool _⟩
        | j + 1 => simp at hj⟩
  · obtain ⟨hem, hns⟩ := mem_left he
    obtain ⟨j, hj⟩ := List.getElem?_of_mem hem
    have hj' : es[j]? = some e := by simpa using hj
    have hbj := hborn j e hj'
    have hjs : j < es.size := (Array.getElem?_eq_some_iff.1 hj').1
    have hjM : j < M.length := by rw [← hM.size]; exact hjs
    have hnj : j ∉ seen := fun hm => by
      rw [hbj] at hns
      have : sn.contains j = true := by simpa [← s2] using hm
      rw [this] at hns; cases hns
    refine ⟨_, _, ⟨some j, hjM, hnj⟩, Φ, β, hex _ _ hrun, ?_, Φ.le_refl⟩
    rw [hd]
    have hrlt : r < w.heap.size := (Array.getElem?_eq_some_iff.1 s1).1
    have hgr : w.grownBy (setBlock w1 r (.mapIter (some b) since (sn.push e.born) es.size)) (some r) := by
      rcases hw1 with rfl | rfl
      · exact ⟨rfl, rfl, rfl, by simp [setBlock], fun k hk hne => by
          have hne' : r ≠ k := fun e => hne (by rw [e])
          simp [setBlock, Array.getElem?_setIfInBounds_ne hne']⟩
      · exact ⟨rfl, rfl, rfl, by show _ ≤ (w.drew.heap.setIfInBounds r _).size; rw [Array.size_setIfInBounds]; exact Nat.le_refl _, fun k hk hne => by
          have hne' : r ≠ k := fun e => hne (by rw [e])
          show (w.drew.heap.setIfInBounds r _)[k]? = _
          rw [Array.getElem?_setIfInBounds_ne hne']; rfl⟩
    have hheap : (setBlock w1 r (.mapIter (some b) since (sn.push e.born) es.size)).heap[r]? = some (.mapIter (some b) since (sn.push j) since) := by
      rw [hbj, hsz]
      rcases hw1 with rfl | rfl
      · simp [setBlock, hrlt]
      · show (w.drew.heap.setIfInBounds r _)[r]? = _
        exact Array.getElem?_setIfInBounds_self_of_lt hrlt
    have hs2 := hs.turnO (B' := ⟨iterTag, b, (seen ++ [j]).map irow⟩) hi h1 iter_ob rfl rfl (fun e => absurd e.symm tags) hgr (.inr ⟨iter_ob, .inr ⟨rfl, sn.push j, hheap, by simp [← s2, irow]⟩⟩)
    have hent := hM.ent j e (nth M j) hj' (by rw [nth, List.getD, List.getElem?_eq_getElem hjM]; rfl)
    refine hs2.put hn ⟨_, rfl, rfl, fun q p hq => ?_⟩
    match q with
    | 0 => simp at hq; subst hq; exact ⟨_, rfl, Rel.bool _⟩
    | 1 => simp at hq; subst hq; exact ⟨_, rfl, hent.2.1⟩
    | 2 => simp at hq; subst hq; exact ⟨_, rfl, hent.2.2⟩
    | q + 3 => simp at hq

theorem P_entry {o : Oper} {p : Prop} {i n b z j : Nat} {x : Operand} {vc : γ → List Cell} {M : List (α × γ)} {seen : List Nat} [Inhabited α] [Inhabited γ] (ho : o.op = .entry x) (hx : Ev A p x (.itr i n))
    (hi : lk A.blks i = some ⟨iterTag, b, (seen ++ [j]).map irow⟩) (hl : lk A.blks n = some ⟨mapTag, z, M.map (mrow kc vc)⟩) (hj : p → j < M.length) :
    PureOp P G A o p (.tup [.one (kc (nth M j).1), mapPV z (vc (nth M j).2)]) := PureOp.val fun Φ β a w hs hp => by
  obtain ⟨r, since, C, M', c, h1, h2, h3, h4, h5, h6, h7, h8⟩ := hs.ev hx hp
  rw [hi] at h2
  obtain rfl := Option.some.inj h2
  rw [hl] at h5
  obtain rfl := Option.some.inj h5
  simp only at h4
  obtain ⟨gM, _, _⟩ := hs.blk n _ b c hl h4
  obtain ⟨gI, gK, gP⟩ := hs.blk i _ r since hi h1
  obtain ⟨es, hM⟩ := MapAt.of gM
  obtain ⟨sn, s1, s2⟩ : ∃ sn : Array Nat, w.heap[r]? = some (.mapIter (some b) since sn since) ∧ sn.toList = seen ++ [j] := by
    rcases gI.obj iter_ob with ⟨q, _⟩ | ⟨_, sn, q1, q2⟩
    · exact absurd q.symm tags
    · exact ⟨sn, q1, (irow_inj q2).symm⟩
  have hsz : es.size = since := by rw [hM.size]; simpa using h7
  have hjM := hj hp
  have hjs : j < es.size := by rw [hM.size]; exact hjM
  have hj' : es[j]? = some es[j] := Array.getElem?_eq_getElem hjs
  have hent := hM.ent j es[j] (nth M j) hj' (by rw [nth, List.getD, List.getElem?_eq_getElem hjM]; rfl)
  have hborn : ∀ (k : Nat) (e : MapEntry), es[k]? = some e → e.born = k := fun k e he => by
    have hk := (Array.getElem?_eq_some_iff.1 he).1
    exact (hM.ent k e (M[k]'(by rw [← hM.size]; exact hk)) he (List.getElem?_eq_getElem _)).1
  have hnd : (es.toList.map (·.born)).Nodup := by
    have : es.toList.map (·.born) = List.range es.size := by
      apply List.ext_getElem?
      intro k
      by_cases hk : k < es.size
      · simp [List.getElem?_range hk, Array.getElem?_eq_getElem hk, hborn k es[k] (Array.getElem?_eq_getElem hk)]
      · rw [List.getElem?_eq_none (by simp; omega), List.getElem?_eq_none (by simp; omega)]
    rw [this]; exact List.nodup_range
  have hsn : sn = (seen.toArray).push es[j].born := by
    rw [hent.1]
    apply Array.toList_inj.1
    rw [s2]; simp
  rw [hsn, ← hsz] at s1
  have hrun := run_entry_at (P := P) w r b es.size seen.toArray es es.size es[j] s1 hM.heap (by simp) hnd
  refine ⟨_, exec_val (m := Instr.entry (a.eval x)) (by simp only [execOp, ho]) (by rw [h8]; exact hrun), _, rfl, rfl, fun q p hq => ?_⟩
  match q with
  | 0 => simp at hq; subst hq; exact ⟨_, rfl, hent.2.1⟩
  | 1 => simp at hq; subst hq; exact ⟨_, rfl, hent.2.2⟩
  | q + 2 => simp at hq
end
end Lf
