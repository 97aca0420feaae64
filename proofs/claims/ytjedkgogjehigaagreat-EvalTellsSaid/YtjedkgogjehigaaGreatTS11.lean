/-
  Part 11 of what the proof rests on.
-/
import Derived.Test.YtjedkgogjehigaaGreatTS03
import Derived.ProofKit
import Derived.OpenShut
import Derived.Carry
import Derived.Test.YtjedkgogjehigaaGreatTS04
import Derived.Lib.LaidTab
import Derived.Test.YtjedkgogjehigaaGreatTS09
import Derived.Test.YtjedkgogjehigaaGreatTS10
import Derived.Test.YtjedkgogjehigaaGreatTS08
section
set_option linter.unusedVariables false
set_option linter.unusedSimpArgs false
set_option linter.unusedSectionVars false
namespace Lf
open Go Go.RowKit Go.ChangeShapes Go.WideShapes Go.ChangeAt
def allΦ (w : World) : Frz := fun b => match w.heap[b]? with | some (.cells c _ _) => some c | _ => none
theorem fits_all (w : World) : Fits (allΦ w) w := by
  intro b cs h
  unfold allΦ at h
  split at h
  · rename_i c e l he
    obtain rfl := Option.some.inj h
    exact ⟨_, _, he⟩
  · cases h
theorem cell_all {w : World} {a : Addr} {v : Value} (h : w.cell? a = some v) : a.spot = none ∧ (allΦ w a.block).bind (·[a.off]?) = some v := by
  unfold World.cell? at h
  unfold allΦ
  split at h
  · rename_i c e l he
    rw [he]
    split at h
    · cases h
    · rename_i hs
      exact ⟨by simpa using hs, by simpa using h⟩
  · cases h
def TyS (R : Nat → List Cell → Prop) : List (Nat × Nat) → List Cell → Prop
  | [], cl => cl = []
  | (_, ft) :: fs, cl => ∃ a b, cl = a ++ b ∧ R ft a ∧ TyS R fs b
def TyL (T : TT) : Nat → Nat → List Cell → Prop
  | 0, _, _ => False
  | n + 1, t, cl => match (T t).map TI.kind with
    | some (.int k) => ∃ i, cl = [.int k i] ∧ (Lit.int k i).wf = true
    | some .bool => ∃ b, cl = [.bool b]
    | some .string => ∃ s, cl = [.str s] ∧ s.length ≤ maxLen
    | some (.slice e) => ∃ rows, cl = [.sl rows] ∧ rows.length ≤ maxLen ∧ ∀ r ∈ rows, TyL T n e r
    | some (.struct fs) => TyS (TyL T n) fs cl
    | _ => False
def tile (T : TT) : Nat → List (Nat × Nat) → Option Nat
  | o, [] => some o
  | o, (fo, ft) :: fs => bif Nat.beq fo o then (T ft).bind fun ti => tile T (o + ti.sz) fs else none
def sup (T : TT) : Nat → Nat → Bool
  | 0, _ => false
  | n + 1, t => match T t with
    | some ti => (match ti.kind with
      | .int _ | .bool | .string => Nat.beq ti.sz 1
      | .slice e => Nat.beq ti.sz 1 && sup T n e && (match T e with | some te => Nat.blt 0 te.sz | none => false)
      | .struct fs => (match tile T 0 fs with | some s => Nat.beq s ti.sz | none => false) && fs.all fun f => sup T n f.2
      | _ => false)
    | none => false
theorem pick_rows {α : Type} {p : Nat → α → Prop} : ∀ {n : Nat}, (∀ i, i < n → ∃ r, p i r) → ∃ rows : List α, rows.length = n ∧ ∀ i r, rows[i]? = some r → p i r
  | 0, _ => ⟨[], rfl, fun i r h => by simp at h⟩
  | n + 1, h => by
    obtain ⟨rows, h1, h2⟩ := pick_rows (n := n) fun i hi => h i (by omega)
    obtain ⟨r, hr⟩ := h n (by omega)
    refine ⟨rows ++ [r], by simp [h1], fun i s hs => ?_⟩
    rw [List.getElem?_append] at hs
    split at hs
    · exact h2 i s hs
    · rename_i hi
      by_cases he : i = n
      · subst he
        simp [h1] at hs
        exact hs ▸ hr
      · rw [List.getElem?_eq_none (by simp; omega)] at hs
        cases hs
section
variable {P : Program} {T : TT} (hT : TOK P T)
include hT
theorem cellsOf_ti {t : Nat} {ti : TI} (h : T t = some ti) : P.cellsOf t = ti.sz := by
  obtain ⟨i, hi, hs, _⟩ := (hT t ti h).info
  simp [Program.cellsOf, hi, hs]
theorem read {H : Type} {enc : TypeId × Value → H} {w : World} {base : Nat} {spare : Nat → Bool} {held : Bool} : ∀ (n t fuel : Nat) (cs : List Value) (x : DataW H × List MemPlace), sup T n t = true → DataW.trod enc P w base spare held fuel t cs = some x →
    ∃ cl, RelL (allΦ w) cs cl ∧ TyL T n t cl ∧ ∀ ti, T t = some ti → cl.length = ti.sz := by
  intro n
  induction n with
  | zero => intro t fuel cs x hs _; simp [sup] at hs
  | succ n ih =>
    intro t fuel cs x hs h
    cases hti : T t with
    | none => simp [sup, hti] at hs
    | some ti =>
      have hk := (hT t ti hti).kind
      have hz := cellsOf_ti hT hti
      simp only [sup, hti] at hs
      simp only [TyL, hti, Option.map_some]
      cases hkd : ti.kind with
      | int k =>
        rw [hkd] at hk hs
        obtain ⟨i, rfl, hx, hw⟩ := DataW.trod_int hk h
        exact ⟨[.int k i], ⟨.int k i, trivial⟩, ⟨i, rfl, hw⟩, fun tj hj => by obtain rfl := Option.some.inj hj; simpa using (Nat.eq_of_beq_eq_true hs).symm⟩
      | bool =>
        rw [hkd] at hk hs
        obtain ⟨b, rfl, hx⟩ := DataW.trod_bool hk h
        exact ⟨[.bool b], ⟨.bool b, trivial⟩, ⟨b, rfl⟩, fun tj hj => by obtain rfl := Option.some.inj hj; simpa using (Nat.eq_of_beq_eq_true hs).symm⟩
      | string =>
        rw [hkd] at hk hs
        obtain ⟨s, rfl, hx, hw⟩ := DataW.trod_string hk h
        refine ⟨[.str s.data.toList], ⟨.str s, trivial⟩, ⟨_, rfl, ?_⟩, fun tj hj => by obtain rfl := Option.some.inj hj; simpa using (Nat.eq_of_beq_eq_true hs).symm⟩
        rw [Array.length_toList]; exact hw
      | slice e =>
        rw [hkd] at hk hs
        simp only [Bool.and_eq_true] at hs
        obtain ⟨⟨hs1, hs2⟩, hs3⟩ := hs
        cases hte : T e with
        | none => rw [hte] at hs3; cases hs3
        | some te =>
          rw [hte] at hs3
          have hpos := blt_lt hs3
          have hze := cellsOf_ti hT hte
          have hlen1 : ∀ tj, some ti = some tj → 1 = tj.sz := fun tj hj => by obtain rfl := Option.some.inj hj; exact (Nat.eq_of_beq_eq_true hs1).symm
          rcases DataW.trod_slice hk h with ⟨rfl, hx⟩ | ⟨a, len, cap, elems, rest, m, rfl, rfl, hx, hb, hl, hm, hel, hget, _, _⟩
          · exact ⟨[.sl []], ⟨.sl0, trivial⟩, ⟨[], rfl, Nat.zero_le _, fun r hr => by cases hr⟩, hlen1⟩
          · have each : ∀ i, i < len → ∃ cl : List Cell, ∃ ci, w.cells? base (a.add (i * P.cellsOf e)) (P.cellsOf e) = some ci ∧ RelL (allΦ w) ci cl ∧ TyL T n e cl ∧ cl.length = te.sz := by
              intro i hi
              have h1 := hget i hi
              rw [List.getElem?_eq_getElem (by omega)] at h1
              cases hc : w.cells? base (a.add (i * P.cellsOf e)) (P.cellsOf e) with
              | none => rw [hc] at h1; cases h1
              | some ci =>
                rw [hc] at h1
                obtain ⟨cl, g1, g2, g3⟩ := ih e m ci _ hs2 h1
                exact ⟨cl, ci, rfl, g1, g2, g3 te hte⟩
            obtain ⟨rows, hr1, hr2⟩ := pick_rows each
            refine ⟨[.sl rows], ⟨?_, trivial⟩, ⟨rows, rfl, by omega, fun r hr => ?_⟩, hlen1⟩
            · by_cases h0 : len = 0
              · subst h0
                obtain rfl : rows = [] := List.eq_nil_of_length_eq_zero hr1
                exact .slE a cap
              · obtain ⟨b, off, spot⟩ := a
                have cellat : ∀ i j r c, rows[i]? = some r → r[j]? = some c → ∃ v, w.cell? (Addr.add (Addr.add ⟨b, off, spot⟩ (i * te.sz)) j) = some v ∧ Rel (allΦ w) v c := by
                  intro i j r c h1 h2
                  obtain ⟨ci, g1, g2, g3, g4⟩ := hr2 i r h1
                  obtain ⟨v, hv1, hv2⟩ := g2.get h2
                  rw [hze] at g1
                  have hj : j < te.sz := by have := (List.getElem?_eq_some_iff.1 h2).1; omega
                  have := World.cells?_some g1
                  refine ⟨v, ?_, hv2⟩
                  rw [← hv1]
                  exact this.2.2 j hj
                have hrow0 : ∃ r, rows[0]? = some r := ⟨rows[0]'(by omega), List.getElem?_eq_getElem (by omega)⟩
                obtain ⟨r0, hr0⟩ := hrow0
                obtain ⟨_, _, _, _, hl0⟩ := hr2 0 r0 hr0
                obtain ⟨v0, hv0, _⟩ := cellat 0 0 r0 _ hr0 (List.getElem?_eq_getElem (show 0 < r0.length by omega))
                have hz0 : Addr.add (Addr.add ⟨b, off, spot⟩ (0 * te.sz)) 0 = ⟨b, off, spot⟩ := by simp [Addr.add]
                rw [hz0] at hv0
                have hsp : spot = none := (cell_all hv0).1
                subst hsp
                refine .sl b off len cap te.sz rows (fun i j => ((allΦ w b).bind (·[off + (i * te.sz + j)]?)).getD .nilFunc) hr1 hl (fun r hr => ?_) (fun i j r c h1 h2 => ?_) (fun i j r c h1 h2 => ?_)
                · obtain ⟨i, hi⟩ := List.getElem?_of_mem hr
                  obtain ⟨_, _, _, _, g⟩ := hr2 i r hi
                  exact g
                · obtain ⟨v, hv, _⟩ := cellat i j r c h1 h2
                  have := (cell_all hv).2
                  simp only [Addr.add_lit] at this
                  rw [show off + (i * te.sz + j) = off + i * te.sz + j by omega, this]; rfl
                · obtain ⟨v, hv, hv2⟩ := cellat i j r c h1 h2
                  have := (cell_all hv).2
                  simp only [Addr.add_lit] at this
                  rw [show off + (i * te.sz + j) = off + i * te.sz + j by omega, this]; exact hv2
            · obtain ⟨i, hi⟩ := List.getElem?_of_mem hr
              obtain ⟨_, _, _, g, _⟩ := hr2 i r hi
              exact g
      | struct fs =>
        rw [hkd] at hk hs
        obtain ⟨fields, hu, hfs⟩ := hk
        simp only [Bool.and_eq_true] at hs
        obtain ⟨hs1, hs2⟩ := hs
        cases htl : tile T 0 fs with
        | none => rw [htl] at hs1; cases hs1
        | some tot =>
          rw [htl] at hs1
          have htot := Nat.eq_of_beq_eq_true hs1
          obtain ⟨xs, m, rfl, hx, hlen, hxl, hget⟩ := DataW.trod_struct hu h
          have hall : ∀ f ∈ fs, ∃ y, DataW.trod enc P w base spare held m f.2 ((cs.drop f.1).take (P.cellsOf f.2)) = some y := by
            intro f hf
            rw [← hfs] at hf
            obtain ⟨g, hg, rfl⟩ := List.mem_map.1 hf
            obtain ⟨i, hi⟩ := List.getElem?_of_mem hg
            have hi' : fields[i]? = some g := by rw [← hi]; simp
            have hlt : i < xs.length := by rw [hxl]; exact (Array.getElem?_eq_some_iff.1 hi').1
            exact ⟨xs[i], by rw [hget i g hi', List.getElem?_eq_getElem hlt]⟩
          have main : ∀ (gs : List (Nat × Nat)) (o : Nat), (∀ f ∈ gs, ∃ y, DataW.trod enc P w base spare held m f.2 ((cs.drop f.1).take (P.cellsOf f.2)) = some y) → gs.all (fun f => sup T n f.2) = true → tile T o gs = some tot → cs.length = tot →
              ∃ cl, RelL (allΦ w) (cs.drop o) cl ∧ TyS (TyL T n) gs cl ∧ o + cl.length = tot := by
            intro gs
            induction gs with
            | nil =>
              intro o _ _ h1 h2
              simp only [tile, Option.some.injEq] at h1
              refine ⟨[], ?_, rfl, by simp [h1]⟩
              rw [List.drop_eq_nil_of_le (by omega)]
              trivial
            | cons f gs ihs =>
              intro o hall' hsup h1 h2
              obtain ⟨fo, ft⟩ := f
              rw [tile] at h1
              cases hbe : Nat.beq fo o with
              | false => rw [hbe] at h1; cases h1
              | true =>
                have := Nat.eq_of_beq_eq_true hbe
                subst this
                rw [hbe, cond_true] at h1
                cases htf : T ft with
                | none => rw [htf] at h1; cases h1
                | some tf =>
                  rw [htf] at h1
                  simp only [Option.bind_some] at h1
                  simp only [List.all_cons, Bool.and_eq_true] at hsup
                  obtain ⟨y, hy⟩ := hall' _ (List.mem_cons_self ..)
                  obtain ⟨c1, a1, a2, a3⟩ := ih ft m _ y hsup.1 hy
                  obtain ⟨c2, b1, b2, b3⟩ := ihs (fo + tf.sz) (fun g hg => hall' g (List.mem_cons_of_mem _ hg)) hsup.2 h1 h2
                  have hl1 := a3 tf htf
                  refine ⟨c1 ++ c2, ?_, ⟨c1, c2, rfl, a2, b2⟩, by simp; omega⟩
                  have e : cs.drop fo = (cs.drop fo).take tf.sz ++ cs.drop (fo + tf.sz) := by
                    rw [← List.drop_drop, List.take_append_drop]
                  rw [e]
                  rw [cellsOf_ti hT htf] at a1
                  exact a1.append b1
          obtain ⟨cl, c1, c2, c3⟩ := main fs 0 hall hs2 htl (by rw [hlen, hz, htot])
          refine ⟨cl, by simpa using c1, c2, fun tj hj => ?_⟩
          obtain rfl := Option.some.inj hj
          omega
      | array k e => rw [hkd] at hs; cases hs
      | ptr e => rw [hkd] at hs; cases hs
      | map k e => rw [hkd] at hs; cases hs
      | func => rw [hkd] at hs; cases hs
      | iface => rw [hkd] at hs; cases hs
      | other => rw [hkd] at hs; cases hs
/-- A struct that came in. -/
theorem read_struct {H : Type} {enc : TypeId × Value → H} {w : World} {base b0 : Nat} {spare : Nat → Bool} {held : Bool} {r : Reach} {t : Nat} {fs : Array Field} {v : Value} {d : DataW H} {ps : List MemPlace} (n : Nat) (hu : P.underlying t = some (.struct fs)) (hs : sup T n t = true)
    (hval : Value.okWide P w r b0 t v) (hd : DataW.Trod enc P w base spare held t v d ps) : ∃ cs, PRel (allΦ w) v (.agg cs) ∧ TyL T n t cs := by
  obtain ⟨arr, rfl, _⟩ := okWide_struct hu hval
  obtain ⟨fuel, hf⟩ := hd
  obtain ⟨cl, h1, h2, _⟩ := read hT n t fuel _ _ hs hf
  exact ⟨cl, ⟨arr, rfl, h1⟩, h2⟩
end
theorem rows_map {α : Type} {f : α → List Cell} {p : α → Prop} : ∀ {rows : List (List Cell)}, (∀ r ∈ rows, ∃ v, r = f v ∧ p v) → ∃ l : List α, rows = l.map f ∧ ∀ v ∈ l, p v
  | [], _ => ⟨[], rfl, fun v hv => by cases hv⟩
  | r :: rs, h => by
    obtain ⟨v, rfl, hv⟩ := h r (List.mem_cons_self ..)
    obtain ⟨l, rfl, hl⟩ := rows_map fun s hs => h s (List.mem_cons_of_mem _ hs)
    exact ⟨v :: l, rfl, fun u hu => by cases hu with | head => exact hv | tail _ hm => exact hl u hm⟩
theorem Fin.retB {A : St} {t : Nat} {b : Bool} (h : lk A.env t = some (True, .pv (.one (.bool b)))) (hb : b = true) : Lf.Fin [t] [cB true] .ret A :=
  Fin.ret (ResL.cons h rfl (PSub.of_eq (by rw [hb])) ResL.nil)
/-- arguments, one after the other -/
def ArgsL (Φ : Frz) : List Value → List PV → Prop
  | [], [] => True
  | v :: vs, p :: ps => PRel Φ v p ∧ ArgsL Φ vs ps
  | _, _ => False
theorem ArgsL.rel {Φ : Frz} : ∀ {vs : List Value} {ps : List PV}, ArgsL Φ vs ps → vs.length = ps.length ∧ ∀ (j : Nat) (p : PV), ps[j]? = some p → ∃ v, vs[j]? = some v ∧ PRel Φ v p
  | [], [], _ => ⟨rfl, fun j p h => by simp at h⟩
  | v :: vs, p :: ps, h => by
    obtain ⟨h1, h2⟩ := ArgsL.rel h.2
    refine ⟨by simp [h1], fun j q hq => ?_⟩
    cases j with
    | zero => simp at hq; exact ⟨v, rfl, hq ▸ h.1⟩
    | succ j => simpa using h2 j q (by simpa using hq)
theorem ArgsRel.of {Φ : Frz} {vs : List Value} {ps : List PV} (h : ArgsL Φ vs ps) : ArgsRel Φ vs.toArray ps := ⟨by simpa using h.rel.1, fun j p hp => by simpa using h.rel.2 j p hp⟩
theorem ArgsL.nil {Φ : Frz} : ArgsL Φ [] [] := trivial
theorem ArgsL.cons {Φ : Frz} {v : Value} {vs : List Value} {p : PV} {ps : List PV} (h : PRel Φ v p) (hs : ArgsL Φ vs ps) : ArgsL Φ (v :: vs) (p :: ps) := ⟨h, hs⟩
end Lf
end
section
set_option linter.unusedVariables false
set_option linter.unusedSimpArgs false
set_option linter.unusedSectionVars false
namespace Lf
open Go Go.RowKit
section
variable {P : Program} {G : Ghost} {A : St} {Φ : Frz} {β : Own} {a : Act} {w w' : World} {T : TT}
/-- THE CONTRACT OF A FUNCTION that finds a map of its caller's at a place which its arguments name: the map's entries before the call, and what is known of them behind it. -/
structure PCalls (P : Program) (f : FuncId) (z : Nat) (args : Nat → List PV) (r : AV) (I : List (List Cell) → Prop) : Prop where
  fn : FnOK P f
  calls : ∀ (Φ : Frz) (w : World) (vs : Array Value) (b cap : Nat) (rows : List (List Cell)), I rows → Fits Φ w → ArgsRel Φ vs (args b) → Φ b = none → BlkRel Φ w b cap ⟨mapTag, z, rows⟩ →
    Calls P f vs w (fun e w' => ∃ v Φ' rows', e = .returned v ∧ AVRel Φ' (fun _ => none) [] v r ∧ Φ.le Φ' ∧ (∀ c, c < w.heap.size → Φ' c = Φ c) ∧ Fits Φ' w' ∧ I rows' ∧ BlkRel Φ' w' b cap ⟨mapTag, z, rows'⟩ ∧ BelowX b w.heap.size w w')
def St.initP (n z b : Nat) (rows : List (List Cell)) (args : List PV) : St := { n := n, env := initEnv args 0 ++ [(1000000, (True, .mpn 1000000 b))], blks := [(1000000, ⟨mapTag, z, rows⟩)] }
def FinP (T : TT) (z b : Nat) (I : List (List Cell) → Prop) (rs : List RV) (qs : List PV) (e : Exit) (A : St) : Prop :=
  (e = .normal ∨ e = .ret) ∧ ∃ m rows', lk A.blks m = some ⟨mapTag, z, rows'⟩ ∧ I rows' ∧ lk A.env 1000000 = some (True, .mpn m b) ∧ ResM T { A with env := fgt m A.env, blks := dropB m A.blks } rs qs
theorem FinP.ret {z b : Nat} {I : List (List Cell) → Prop} {rs : List RV} {qs : List PV} {rows' : List (List Cell)} (m : Nat) (h1 : lk A.blks m = some ⟨mapTag, z, rows'⟩) (h2 : I rows') (h3 : lk A.env 1000000 = some (True, .mpn m b)) (h : ResM T { A with env := fgt m A.env, blks := dropB m A.blks } rs qs) : FinP T z b I rs qs .ret A := ⟨.inr rfl, m, rows', h1, h2, h3, h⟩
theorem lk_appP {α : Type _} (l r : List (Nat × α)) (t : Nat) : lk (l ++ r) t = (lk l t).orElse fun _ => lk r t := by
  induction l with
  | nil => rfl
  | cons p l ih =>
    obtain ⟨k, x⟩ := p
    rw [List.cons_append, lk_cons, lk_cons, ih]
    split <;> rfl
/-- all but one block -/
theorem Sat.dropM {m : Nat} {B : Blk} (hm : lk A.blks m = some B) (hs : Sat G Φ β A a w) : Sat G Φ β { A with env := fgt m A.env, blks := dropB m A.blks } a w := by
  refine ⟨hs.kept, hs.fits, hs.old, hs.siz, hs.dfr, fun t q v h => ?_, fun n C b cap h1 h2 => ?_, fun n C h1 h2 => ?_, fun n n' C C' b c c' h1 h2 h3 h4 => ?_⟩
  · obtain ⟨v', g1, rfl⟩ := lk_fgt _ _ _ _ _ h
    refine ⟨fun hq => ?_, (hs.env t q v' g1).2⟩
    cases hmt : v'.ment m with
    | true => trivial
    | false => exact ((hs.env t q v' g1).1 hq).drop hmt
  · simp only [lk_dropB] at h1; split at h1
    · cases h1
    · exact hs.blk n C b cap h1 h2
  · simp only [lk_dropB] at h1; split at h1
    · cases h1
    · exact hs.vir n C h1 h2
  · simp only [lk_dropB] at h1 h2; split at h1
    · cases h1
    · split at h2
      · cases h2
      · exact hs.inj n n' C C' b c c' h1 h2 h3 h4
theorem PCalls.of_M (hT : TOK P T) {f : FuncId} {fn : Func} {c : Code} {z : Nat} {args : Nat → List PV} {qs : List PV} {I : List (List Cell) → Prop} (rs : List RV) (n : Nat) (hf : P.funcs[f]? = some fn) (hn : (fn.name == "runtime.NumGoroutine") = false) (hb : fn.body = some c)
    (hr : fn.results = (rs.map RV.var).toArray) (hnt : fn.ntmps = n) (h : ∀ G b rows, I rows → W P G c (FinP T z b I rs qs) (St.initP n z b rows (args b))) : PCalls P f z args (ofRes qs) I where
  fn := ⟨fn, hf, hn, by rw [hb]; rfl⟩
  calls := fun Φ w vs b cap rows hI0 hfit harg hΦ hblk => by
    subst hnt
    have hlt := hblk.lt
    have h0 := sat_init (G := { w0 := w, K := fun c => c < w.heap.size, F0 := Φ, lt := fun c h => h }) (f := f) (fn := fn) rfl hfit harg
    have hs0 : Sat { w0 := w, K := fun c => c < w.heap.size ∧ c ≠ b, F0 := Φ, lt := fun c h => h.1 } Φ (fun n => if n = 1000000 then some (b, cap) else none) (St.initP fn.ntmps z b rows (args b)) { tmps := vs ++ Array.replicate (fn.ntmps - vs.size) undef, defers := [] } w := by
      refine ⟨⟨rfl, rfl, rfl, Nat.le_refl _, fun b _ => rfl⟩, hfit, fun b _ => rfl, h0.siz, rfl, fun t q v hl => ?_, fun n B b' cap' h1 h2 => ?_, fun n B h1 h2 => ?_, fun n n' B B' b' c1 c2 h1 h2 h3 h4 => ?_⟩
      · simp only [St.initP] at hl
        rw [lk_appP] at hl
        cases h5 : lk (initEnv (args b) 0) t with
        | some y =>
          rw [h5] at hl
          obtain rfl := Option.some.inj hl
          obtain ⟨_, rfl, p, hp, rfl⟩ := lk_init _ _ _ _ _ h5
          exact h0.env t True (.pv p) h5
        | none =>
          rw [h5] at hl
          have hl : lk [(1000000, ((True : Prop), AV.mpn 1000000 b))] t = some (q, v) := hl
          rw [lk_cons] at hl
          split at hl
          · simp only [Option.some.injEq, Prod.mk.injEq] at hl
            obtain ⟨rfl, rfl⟩ := hl
            exact ⟨fun _ => ⟨b, cap, ⟨mapTag, z, rows⟩, by simp, rfl, rfl, rfl⟩, fun hq => (hq trivial).elim⟩
          · simp [lk] at hl
      · simp only [St.initP] at h1
        rw [lk_cons] at h1
        split at h1
        · rename_i e; subst e
          obtain rfl := Option.some.inj h1
          simp at h2
          obtain ⟨rfl, rfl⟩ := h2
          exact ⟨hblk, fun h => h.2 rfl, hΦ⟩
        · simp [lk] at h1
      · simp only [St.initP] at h1
        rw [lk_cons] at h1
        split at h1
        · rename_i e; subst e; simp at h2
        · simp [lk] at h1
      · split at h3
        · rename_i e; split at h4
          · rename_i e'; rw [e, e']
          · cases h4
        · cases h3
    refine calls_of_wp hf hb (wp_mono (h _ b rows hI0 Φ _ _ w hs0) fun e a' w' ⟨A', Φ1, β1, ⟨he, m, rows', hm, hI, hg, hres⟩, hs1, hle1⟩ => ?_)
    obtain ⟨b1, cap1, B1, k1, k2, k3, rfl⟩ := (hs1.env 1000000 True _ hg).1 trivial
    rw [hm] at k2
    obtain rfl := Option.some.inj k2
    have hbl := hs1.blk m _ b1 cap1 hm k1
    have hs := hs1.dropM hm
    have hno : ¬ ownedBy β1 (dropB m A'.blks) b1 := fun ⟨n, C, c', g1, g2⟩ => by
      rw [lk_dropB] at g1; split at g1
      · cases g1
      · rename_i e; exact e (hs1.inj n m C _ b1 c' cap1 g1 hm g2 k1)
    have hrest : Φ.le (frzAll Φ1 β1 (dropB m A'.blks) w') ∧ (∀ c, c < w.heap.size → frzAll Φ1 β1 (dropB m A'.blks) w' c = Φ c) ∧ Fits (frzAll Φ1 β1 (dropB m A'.blks) w') w' ∧ I rows' ∧ BlkRel (frzAll Φ1 β1 (dropB m A'.blks) w') w' b1 cap ⟨mapTag, z, rows'⟩ ∧ BelowX b1 w.heap.size w w' := by
      refine ⟨Frz.le_trans hle1 hs.frz_le, fun c hc => ?_, hs.frz_fits, hI, ?_, ⟨hs1.kept.os, hs1.kept.tape, hs1.kept.output, hs1.kept.size, fun c h1 h2 => hs1.kept.block c ⟨h1, h2⟩⟩⟩
      · by_cases e : c = b1
        · subst e
          unfold frzAll
          rw [if_neg hno, hΦ]; exact hbl.2.2
        · have hno' : ¬ ownedBy β1 (dropB m A'.blks) c := fun ⟨n, B, cap', h1, h2⟩ => (hs.blk n B c cap' h1 h2).2.1 ⟨hc, e⟩
          unfold frzAll
          rw [if_neg hno']
          exact hs1.old c ⟨hc, e⟩
      · rcases (hbl.1.keep hs.frz_le rfl).obj map_ob with ⟨_, es, g1, g2⟩ | ⟨g, _⟩
        · exact .inr ⟨map_ob, .inl ⟨rfl, es, g1, g2⟩⟩
        · exact absurd g tags
    have hv : a'.defers = [] ∧ ∃ v, (results fn a'.tmps).run P w' = .ok v w' ∧ (∃ v1 Φ'' rows'', Ending.returned v = .returned v1 ∧ AVRel Φ'' (fun _ => none) [] v1 (ofRes qs) ∧ Φ.le Φ'' ∧ (∀ c, c < w.heap.size → Φ'' c = Φ c) ∧ Fits Φ'' w' ∧ I rows'' ∧ BlkRel Φ'' w' b1 cap ⟨mapTag, z, rows''⟩ ∧ BelowX b1 w.heap.size w w') := by
      obtain ⟨vl, e1, e2, e3⟩ := resm_run hT hs (f := fun
        | .tmp t => pure (a'.tmps.getD t undef)
        | .cell t ty => do loadVar ty (← asAddr (a'.tmps.getD t undef))) (fun t => rfl) (fun t ty => rfl) hres
      refine ⟨hs.dfr, ?_⟩
      match vl, qs, e1, e2, e3 with
      | [], [], e1, _, e3 =>
        refine ⟨.tuple #[], ?_, _, _, _, rfl, ⟨#[], rfl, rfl, fun j p h => by simp at h⟩, hrest⟩
        unfold results; rw [hr, List.mapM_toArray, bind_map_left, Sem.run_bind]; erw [e1]; rfl
      | [v], [q], e1, _, e3 =>
        obtain ⟨v', h1, h2⟩ := e3 0 q rfl
        simp at h1; subst h1
        refine ⟨v, ?_, _, _, _, rfl, h2, hrest⟩
        unfold results; rw [hr, List.mapM_toArray, bind_map_left, Sem.run_bind]; erw [e1]; rfl
      | v :: v2 :: vs', q :: q2 :: qs', e1, e2, e3 =>
        refine ⟨.tuple (v :: v2 :: vs').toArray, ?_, _, _, _, rfl, ⟨_, rfl, by simpa using e2, fun j p hp => ?_⟩, hrest⟩
        · unfold results; rw [hr, List.mapM_toArray, bind_map_left, Sem.run_bind]; erw [e1]; rfl
        · obtain ⟨v', h1, h2⟩ := e3 j p hp
          exact ⟨v', by simpa using h1, h2⟩
    rcases he with rfl | rfl
    · exact hv
    · exact hv
/-- no slot holds an iterator over the map: what a call has put into it -/
theorem AVRel.turnM {n b cap z : Nat} {rows rows' : List (List Cell)} {v : Value} {x : AV} (h : AVRel Φ β A.blks v x) (h1 : lk A.blks n = some ⟨mapTag, z, rows⟩) (hni : x.isItr n = false) : AVRel Φ β ((n, (⟨mapTag, z, rows'⟩ : Blk)) :: A.blks) v x := by
  have hl : ∀ m, m ≠ n → lk ((n, (⟨mapTag, z, rows'⟩ : Blk)) :: A.blks) m = lk A.blks m := fun m hm => by rw [lk_cons, if_neg (Ne.symm hm)]
  have hl0 : lk ((n, (⟨mapTag, z, rows'⟩ : Blk)) :: A.blks) n = some ⟨mapTag, z, rows'⟩ := by rw [lk_cons, if_pos rfl]
  have hno : ∀ {m : Nat} {C : Blk}, lk A.blks m = some C → C.ob = false → m ≠ n := fun {m C} k1 k2 e => by
    subst e; rw [h1] at k1; obtain rfl := Option.some.inj k1; rw [map_ob] at k2; cases k2
  cases x with
  | pv p => exact h
  | tup l => exact h
  | top => trivial
  | addr m i off =>
    obtain ⟨b', cap', C, k1, k2, k3, k4⟩ := h
    exact ⟨b', cap', C, k1, by rw [hl m (hno k2 k3)]; exact k2, k3, k4⟩
  | slc m =>
    obtain ⟨C, k2, k3, k4⟩ := h
    exact ⟨C, by rw [hl m (hno k2 k3)]; exact k2, k3, k4⟩
  | pin m b0 c0 f =>
    obtain ⟨C, k1, k2, k3, k4⟩ := h
    exact ⟨C, k1, by rw [hl m (hno k2 k3)]; exact k2, k3, k4⟩
  | mp m =>
    obtain ⟨b', cap', C, k1, k2, k3, k4⟩ := h
    by_cases e : m = n
    · subst e
      exact ⟨b', cap', _, k1, hl0, rfl, k4⟩
    · exact ⟨b', cap', C, k1, by rw [hl m e]; exact k2, k3, k4⟩
  | mpn m bb =>
    obtain ⟨b', cap', C, k1, k2, k3, k4⟩ := h
    by_cases e : m = n
    · subst e
      exact ⟨b', cap', _, k1, hl0, rfl, k4⟩
    · exact ⟨b', cap', C, k1, by rw [hl m e]; exact k2, k3, k4⟩
  | itr d m =>
    obtain ⟨b', cap', C, M, c, k1, k2, k3, k4, k5, k6⟩ := h
    have e : m ≠ n := fun e => by subst e; simp [AV.isItr] at hni
    have e' : d ≠ n := fun e => by
      subst e; rw [h1] at k2; obtain rfl := Option.some.inj k2; exact absurd k3 tags
    exact ⟨b', cap', C, M, c, k1, by rw [hl d e']; exact k2, k3, k4, by rw [hl m e]; exact k5, k6⟩
theorem Sat.lendM {Φ' : Frz} (hs : Sat G Φ β A a w) {n b cap z : Nat} {rows rows' : List (List Cell)} (h1 : lk A.blks n = some ⟨mapTag, z, rows⟩) (h2 : β n = some (b, cap)) (hni : noItr n A.env = true)
    (hle : Φ.le Φ') (heq : ∀ c, c < w.heap.size → Φ' c = Φ c) (hf : Fits Φ' w') (hb : BlkRel Φ' w' b cap ⟨mapTag, z, rows'⟩) (hx : BelowX b w.heap.size w w') : Sat G Φ' β { A with blks := (n, ⟨mapTag, z, rows'⟩) :: A.blks } a w' := by
  obtain ⟨g1, g2, g3⟩ := hs.blk n _ b cap h1 h2
  have hne : ∀ c, G.K c → c ≠ b := fun c hk e => g2 (e ▸ hk)
  refine ⟨⟨hx.os.trans hs.kept.os, hx.tape.trans hs.kept.tape, hx.output.trans hs.kept.output, Nat.le_trans hs.kept.size hx.size, fun c hk => (hx.block c (Nat.lt_of_lt_of_le (G.lt c hk) hs.kept.size) (hne c hk)).trans (hs.kept.block c hk)⟩, hf,
    fun c hk => (heq c (Nat.lt_of_lt_of_le (G.lt c hk) hs.kept.size)).trans (hs.old c hk), hs.siz, hs.dfr, fun t q v h => ⟨fun hq => (((hs.env t q v h).1 hq).mono hle).turnM (b := b) (cap := cap) h1 ?_, (hs.env t q v h).2⟩, fun m C b' cap' k1 k2 => ?_, fun m C k1 k2 => ?_, fun m m' C C' b' c c' k1 k2 k3 k4 => ?_⟩
  · cases hv : v.isItr n with
    | false => rfl
    | true =>
      cases v with
      | itr d m =>
        have e : m = n := Nat.eq_of_beq_eq_true hv
        subst e
        exact (noItr_at hni t q d h).elim
      | _ => cases hv
  · rw [lk_cons] at k1
    split at k1
    · rename_i e; subst e
      obtain rfl := Option.some.inj k1
      rw [h2] at k2
      simp only [Option.some.injEq, Prod.mk.injEq] at k2
      obtain ⟨rfl, rfl⟩ := k2
      exact ⟨hb, g2, by rw [heq b g1.lt]; exact g3⟩
    · rename_i e
      obtain ⟨q1, q2, q3⟩ := hs.blk m C b' cap' k1 k2
      have hbb : b' ≠ b := fun e' => by subst e'; exact e (hs.inj n m _ C b' cap cap' h1 k1 h2 k2)
      exact ⟨q1.keep hle (hx.block b' q1.lt hbb), q2, by rw [heq b' q1.lt]; exact q3⟩
  · rw [lk_cons] at k1
    split at k1
    · rename_i e; subst e; rw [h2] at k2; cases k2
    · exact hs.vir m C k1 k2
  · have hk : ∀ m C, lk ((n, (⟨mapTag, z, rows'⟩ : Blk)) :: A.blks) m = some C → ∃ C0, lk A.blks m = some C0 := fun m C h => by
      rw [lk_cons] at h
      split at h
      · rename_i e; subst e; exact ⟨_, h1⟩
      · exact ⟨C, h⟩
    obtain ⟨C0, e0⟩ := hk m C k1
    obtain ⟨C1, e1⟩ := hk m' C' k2
    exact hs.inj m m' C0 C1 b' c c' e0 e1 k3 k4
theorem E_callp {o : Oper} {f : FuncId} {xs : List Operand} {ats : Array TypeId} {ps : Nat → List PV} {z d m b g : Nat} {rows : List (List Cell)} {r : AV} {I : List (List Cell) → Prop} (ho : o.op = .call { callee := .value (.func f), args := xs.toArray, argTypes := ats }) (hd : o.dst = some d) (hn : d < A.n)
    (hg : lk A.env g = some (True, .mpn m b)) (hl : lk A.blks m = some ⟨mapTag, z, rows⟩) (hx : EvD A True xs (ps b)) (hni : noItr m A.env = true) (hI : I rows) (hc : PCalls P f z ps r I) :
    EffF P G A o (fun s : { rows' : List (List Cell) // I rows' } => { A with blks := (m, ⟨mapTag, z, s.1⟩) :: A.blks }.set d True r) := fun Φ β a w hs => by
  unfold Oper.wp
  rw [call_run ho hc.fn]
  obtain ⟨b1, cap, B, k1, k2, k3, rfl⟩ := (hs.env g True _ hg).1 trivial
  rw [hl] at k2
  obtain rfl := Option.some.inj k2
  obtain ⟨g1, g2, g3⟩ := hs.blk m _ b1 cap hl k1
  refine Calls.mono (hc.calls Φ w _ b1 cap rows hI hs.fits ⟨by simp [evd_len hx], fun j q hq => ?_⟩ g3 g1) ?_
  · obtain ⟨x, h1, h2⟩ := evd_args hs trivial hx j q hq
    exact ⟨a.eval x, by simp [h1], h2⟩
  · rintro e w' ⟨v, Φ', rows', rfl, hv, hle, heq, hfit, hI, hbl, hb⟩
    have hs' := hs.lendM (rows' := rows') hl k1 hni hle heq hfit hbl hb
    show ∃ s Φ'' β', Sat G Φ'' β' _ (a.put o.dst v) w' ∧ Φ.le Φ''
    rw [hd]
    exact ⟨⟨rows', hI⟩, Φ', β, hs'.put hn hv.ret, hle⟩
/-- a map's place, as1 data -/
theorem rel_mpa {b : Nat} {v : Value} (h : Rel Φ v (.mpa b)) : v = .map (some b) := by cases h; rfl
end
section
variable {P : Program} {G : Ghost} {ops : Array Oper} {rest : List Oper} {Q : St → Prop} {n0 : Nat} {env : List (Nat × (Prop × AV))} {bl : List (Nat × Blk)} {p : Prop} {dst : Option Nat} {ty : TypeId} {pos : String} {after : Array Edge} {gd : Option (Nat × Bool)}
theorem S_callp {f : FuncId} {xs : List Operand} {ats : Array TypeId} {ps : Nat → List PV} {z d m b g : Nat} {rows : List (List Cell)} {r : AV} {I : List (List Cell) → Prop} (hc : PCalls P f z ps r I)
    (hg : lk env g = some (True, .mpn m b)) (hl : lk bl m = some ⟨mapTag, z, rows⟩) (hn : Nat.blt d n0 = true) (hni : noItr m env = true) (hI : I rows) (hx : EvD (St.mk n0 env bl) True xs (ps b))
    (h : ∀ rows', I rows' → RG P G ops rest Q (St.mk n0 ((d, (True, r)) :: env) ((m, ⟨mapTag, z, rows'⟩) :: bl))) : RG P G ops (⟨some d, .call ⟨.value (.func f), xs.toArray, ats⟩, ty, pos, after, none⟩ :: rest) Q (St.mk n0 env bl) :=
  RG.effF rfl (E_callp (A := St.mk n0 env bl) rfl rfl (blt_lt hn) hg hl hx hni hI hc) fun s => h s.1 s.2
/-- the place of a map of one's own -/
theorem RG.mplace {t n : Nat} {C : Blk} (ht : lk env t = some (True, .mp n)) (h : ∀ b, RG P G ops rest Q (St.mk n0 ((t, (True, .pv (.one (.mpa b)))) :: (1000000, (True, .mpn n b)) :: env) bl)) :
    RG P G ops rest Q (St.mk n0 env bl) := fun Φ β a w hs Q' hq => by
  obtain ⟨b, cap, B, h1, h2, h3, h4⟩ := (hs.env t True _ ht).1 trivial
  refine h b Φ β a w ⟨hs.kept, hs.fits, hs.old, hs.siz, hs.dfr, fun s q v h5 => ?_, hs.blk, hs.vir, hs.inj⟩ Q' hq
  rw [lk_cons] at h5
  split at h5
  · rename_i e; subst e
    simp only [Option.some.injEq, Prod.mk.injEq] at h5
    obtain ⟨rfl, rfl⟩ := h5
    refine ⟨fun _ => ?_, fun hq => (hq trivial).elim⟩
    show Rel _ _ _
    rw [h4]; exact Rel.mpa b
  · rw [lk_cons] at h5
    split at h5
    · simp only [Option.some.injEq, Prod.mk.injEq] at h5
      obtain ⟨rfl, rfl⟩ := h5
      exact ⟨fun _ => ⟨b, cap, B, h1, h2, h3, rfl⟩, fun hq => (hq trivial).elim⟩
    · exact hs.env s q v h5
variable {T : TT} (hT : TOK P T)
include hT
/-- a map out of a struct that stands still -/
theorem Q_loadMp {t g m b : Nat} {x : Operand} {ti : TI} {cs : List Cell} {B : Blk} (hg : lk env g = some (True, .mpn m b)) (hl : lk bl m = some B) (hE : B.E = mapTag) (ht : T t = some ti) (hb : ti.kind.isAgg = some false) (hx : Ev (St.mk n0 env bl) p x (.pv (.one (.ptr (.mpa b :: cs))))) :
    PureOp P G (St.mk n0 env bl) ⟨dst, .load t x, ty, pos, after, gd⟩ p (.mp m) :=
  PureOp.conv (v := .pv (.one (.mpa b))) (Q_loadp hT ht hb hx rfl) fun Φ β a w hs Φ' u h => by
    obtain ⟨b1, cap, B1, k1, k2, k3, rfl⟩ := (hs.env g True _ hg).1 trivial
    exact ⟨b1, cap, B1, k1, k2, k3, rel_mpa h⟩
end
end Lf
end
section
set_option linter.unusedVariables false
set_option linter.unusedSimpArgs false
set_option maxHeartbeats 8000000
set_option linter.unusedSectionVars false
namespace Go.Proofs.YtjedkgogjehigaaGreat
open Lf Go
attribute [local irreducible] PureOp EffOp Ev RG W Then InBlock Lf.Fin nth App InitE Pick SubE EvL EvD EvP EvR ResL Lf.Lex SubR SubBR EvC FinO FinM ResM ResD FinS val pw digs trimL
section
structure Fq where
  s : Int
  d : List Int
  s' : Int
  d' : List Int
instance : Inhabited Fq := ⟨⟨0, [], 0, []⟩⟩
instance : Inhabited Rat := ⟨0⟩
abbrev encF (q : Fq) : List Cell := [.int .i64 q.s, .sl (q.d.map Lf.encI), .int .i64 q.s', .sl (q.d'.map Lf.encI)]
abbrev encQ (r : Rat) : List Cell := [.int .i64 (sgn r.num), .sl ((digs (mag r.num)).map Lf.encI), .int .i64 (sgn r.den), .sl ((digs (mag r.den)).map Lf.encI)]
abbrev fqV (q : Fq) : PV := fB q.s q.d q.s' q.d'
abbrev slF (l : List Fq) : PV := .one (.sl (l.map encF))
abbrev slQ (l : List Rat) : PV := .one (.sl (l.map encQ))
def fqOf (r : Rat) : Fq := ⟨sgn r.num, digs (mag r.num), sgn r.den, digs (mag r.den)⟩
theorem slF_of (L : List Rat) : (L.map fqOf).map encF = L.map encQ := by rw [List.map_map]; rfl
def Fq.right (q : Fq) : Bool := rightFB q.s q.d q.s' q.d'
def FqOk (q : Fq) : Prop := q.d.length ≤ 9223372036854775807 ∧ q.d'.length ≤ 9223372036854775807
theorem Fq.rat {q : Fq} (h : q.right = true) : ∃ r : Rat, okF r ∧ q = fqOf r := by
  obtain ⟨r, h1, h2, h3, h4, h5⟩ := frac_of h
  refine ⟨r, h1, ?_⟩
  cases q
  simp only at h2 h3 h4 h5
  rw [h2, h3, h4, h5]; rfl
theorem rats {L : List Fq} (h : (L.any fun q => !q.right) = false) : ∃ R : List Rat, (∀ r ∈ R, okF r) ∧ L = R.map fqOf := by
  induction L with
  | nil => exact ⟨[], by simp, rfl⟩
  | cons q L ih =>
    simp only [List.any_cons, Bool.or_eq_false_iff, Bool.not_eq_false'] at h
    obtain ⟨r, h1, h2⟩ := Fq.rat h.1
    obtain ⟨R, h3, h4⟩ := ih h.2
    exact ⟨r :: R, fun x hx => (List.mem_cons.1 hx).elim (fun e => e ▸ h1) (h3 x), by rw [h2, h4]; rfl⟩
structure Let where
  name : Str
  body : Exp
instance : Inhabited Let := ⟨⟨[], default⟩⟩
def encL (x : Let) : List Cell := [.str x.name, .int .i64 x.body.op, .int .i64 x.body.n, .int .i64 x.body.u, .str x.body.s, .sl (x.body.args.map encE)]
abbrev aL (x : Let) : PV := .agg (encL x)
abbrev slL (l : List Let) : PV := .one (.sl (l.map encL))
theorem indexL_ok (l : List Let) (f : Nat) (caps : List Cell) (p : Let → Bool) (hl : l.length ≤ 9223372036854775807) (hp : ∀ x ∈ l, ACalls Tryz.prog f (aL x :: caps.map PV.one) (.pv (cB (p x)))) : ACalls Tryz.prog 39 [slL l, .one (.fn f caps)] (.pv (cI (fidx p l))) := by
  refine ACalls.of_W (qs := [cI (fidx p l)]) [4] 19 Tryz.func39 (by kernel_rfl) rfl rfl rfl fun G => ?_
  refine W.initA (hw := ?_)
  repeat' (first | ((first | apply U_); (first | exact QX.B TYok | exact QX.Len TYok | exact QX.Idx TYok); exact rfl) | refine SC ?_ | (refine W.condA (ht := fun hb => ?_) (hf := fun hb => ?_) <;> (try simp at hb) <;> (try (exfalso; omega))))
  apply W.loopP (σ := Nat) 19 [0, 1, 7] (fun k => k ≤ l.length ∧ (l.take k).any p = false) (fun k => [(8, vI k)]) (fun _ => []) (fun k => l.length - k) (0)
  case hp => repeat (first | exact Pick.nil | apply Pick.cons rfl)
  case h0 =>
    refine ⟨by simp, ?_⟩
    exact Le.auto
  case round =>
    rintro k ⟨h1, h2⟩
    apply W.norm (by repeat (first | exact App.nil | apply App.cons))
    by_cases hk : k < l.length
    · repeat' (first | ((first | apply U_); (first | exact QX.B TYok | exact QX.Len TYok | exact QX.Idx TYok | (apply Q_callvA (hp (nth l k) (nth_mem hk)); exact Ev.auto; exact EvA.auto)); exact rfl) | refine SC ?_ | (refine W.condA (ht := fun hb => ?_) (hf := fun hb => ?_) <;> (try simp at hb) <;> (try (exfalso; omega))))
      · rw [fidx_hit ‹_› h2 hb]
        exact Fin.ret ResL.auto
      · refine ⟨k + 1, ⟨by omega, ?_⟩, ?_, ?_⟩
        · rw [any_take ‹_›, h2, hb]; rfl
        · exact Le.auto
        · (try simp only); omega
    · obtain rfl : k = l.length := by omega
      rw [List.take_length] at h2
      repeat' (first | ((first | apply U_); (first | exact QX.B TYok | exact QX.Len TYok | exact QX.Idx TYok); exact rfl) | refine SC ?_ | (refine W.condA (ht := fun hb => ?_) (hf := fun hb => ?_) <;> (try simp at hb) <;> (try (exfalso; omega))))
      rw [fidx_miss h2]
      exact Fin.ret ResL.auto
theorem containsL_ok (l : List Let) (f : Nat) (caps : List Cell) (p : Let → Bool) (hl : l.length ≤ 9223372036854775807) (hp : ∀ x ∈ l, ACalls Tryz.prog f (aL x :: caps.map PV.one) (.pv (cB (p x)))) : ACalls Tryz.prog 21 [slL l, .one (.fn f caps)] (.pv (cB (l.any p))) := by
  refine ACalls.of_W (qs := [cB (l.any p)]) [4] 9 Tryz.func21 (by kernel_rfl) rfl rfl rfl fun G => ?_
  refine W.initA (hw := ?_)
  repeat' (first | ((first | apply U_); (first | exact QX.B TYok | exact QCl (indexL_ok l f caps p hl hp)); exact rfl) | refine SC ?_ | (refine W.condA (ht := fun hb => ?_) (hf := fun hb => ?_) <;> (try simp at hb) <;> (try (exfalso; omega))))
  rw [← fidx_nn]
  exact Fin.ret ResL.auto
theorem indexF_ok (l : List Fq) (f : Nat) (caps : List Cell) (p : Fq → Bool) (hl : l.length ≤ 9223372036854775807) (hp : ∀ x ∈ l, ACalls Tryz.prog f (fqV x :: caps.map PV.one) (.pv (cB (p x)))) : ACalls Tryz.prog 64 [slF l, .one (.fn f caps)] (.pv (cI (fidx p l))) := by
  refine ACalls.of_W (qs := [cI (fidx p l)]) [4] 19 Tryz.func64 (by kernel_rfl) rfl rfl rfl fun G => ?_
  refine W.initA (hw := ?_)
  repeat' (first | ((first | apply U_); (first | exact QX.B TYok | exact QX.Len TYok | exact QX.Idx TYok); exact rfl) | refine SC ?_ | (refine W.condA (ht := fun hb => ?_) (hf := fun hb => ?_) <;> (try simp at hb) <;> (try (exfalso; omega))))
  apply W.loopP (σ := Nat) 19 [0, 1, 7] (fun k => k ≤ l.length ∧ (l.take k).any p = false) (fun k => [(8, vI k)]) (fun _ => []) (fun k => l.length - k) (0)
  case hp => repeat (first | exact Pick.nil | apply Pick.cons rfl)
  case h0 =>
    refine ⟨by simp, ?_⟩
    exact Le.auto
  case round =>
    rintro k ⟨h1, h2⟩
    apply W.norm (by repeat (first | exact App.nil | apply App.cons))
    by_cases hk : k < l.length
    · repeat' (first | ((first | apply U_); (first | exact QX.B TYok | exact QX.Len TYok | exact QX.Idx TYok | (apply Q_callvA (hp (nth l k) (nth_mem hk)); exact Ev.auto; exact EvA.auto)); exact rfl) | refine SC ?_ | (refine W.condA (ht := fun hb => ?_) (hf := fun hb => ?_) <;> (try simp at hb) <;> (try (exfalso; omega))))
      · rw [fidx_hit ‹_› h2 hb]
        exact Fin.ret ResL.auto
      · refine ⟨k + 1, ⟨by omega, ?_⟩, ?_, ?_⟩
        · rw [any_take ‹_›, h2, hb]; rfl
        · exact Le.auto
        · (try simp only); omega
    · obtain rfl : k = l.length := by omega
      rw [List.take_length] at h2
      repeat' (first | ((first | apply U_); (first | exact QX.B TYok | exact QX.Len TYok | exact QX.Idx TYok); exact rfl) | refine SC ?_ | (refine W.condA (ht := fun hb => ?_) (hf := fun hb => ?_) <;> (try simp at hb) <;> (try (exfalso; omega))))
      rw [fidx_miss h2]
      exact Fin.ret ResL.auto
theorem containsF_ok (l : List Fq) (f : Nat) (caps : List Cell) (p : Fq → Bool) (hl : l.length ≤ 9223372036854775807) (hp : ∀ x ∈ l, ACalls Tryz.prog f (fqV x :: caps.map PV.one) (.pv (cB (p x)))) : ACalls Tryz.prog 42 [slF l, .one (.fn f caps)] (.pv (cB (l.any p))) := by
  refine ACalls.of_W (qs := [cB (l.any p)]) [4] 9 Tryz.func42 (by kernel_rfl) rfl rfl rfl fun G => ?_
  refine W.initA (hw := ?_)
  repeat' (first | ((first | apply U_); (first | exact QX.B TYok | exact QCl (indexF_ok l f caps p hl hp)); exact rfl) | refine SC ?_ | (refine W.condA (ht := fun hb => ?_) (hf := fun hb => ?_) <;> (try simp at hb) <;> (try (exfalso; omega))))
  rw [← fidx_nn]
  exact Fin.ret ResL.auto
structure EnvV where
  names : List Str
  vals : List Fq
  iss : List Str
  rates : List Fq
structure EnvV.Len (v : EnvV) : Prop where
  h1 : v.names.length ≤ 9223372036854775807
  h2 : v.vals.length ≤ 9223372036854775807
  h3 : v.iss.length ≤ 9223372036854775807
  h4 : v.rates.length ≤ 9223372036854775807
  q1 : ∀ q ∈ v.vals, FqOk q
  q2 : ∀ q ∈ v.rates, FqOk q
abbrev encEnv (v : EnvV) : List Cell := [.sl (v.names.map encS), .sl (v.vals.map encF), .sl (v.iss.map encS), .sl (v.rates.map encF)]
def validF (v : EnvV) : Bool := ((decide ((v.names.length : Int) = v.vals.length) && decide ((v.iss.length : Int) = v.rates.length)) && !(v.vals.any fun q => !q.right)) && !(v.rates.any fun q => !q.right)
inductive Rs where
  | ok (r : Rat)
  | err (e : Int)
instance : Inhabited Rs := ⟨.err 0⟩
def Rs.v : Rs → PV
  | .ok r => zF r
  | .err _ => zF0
def Rs.e : Rs → Int
  | .ok _ => 0
  | .err e => e
/-- a right fraction, or an error that is one -/
def Rs.fit : Rs → Prop
  | .ok r => okF r
  | .err e => e ≠ 0
abbrev resP (R : Rs) : AV := .tup [R.v, cI R.e]
def one01 (b : Bool) : Rat := if b then 1 else 0
theorem one01_eq (b : Bool) : one01 b = Rat.divInt (if b then 1 else 0) 1 := by cases b <;> decide +kernel
theorem one01_ok (b : Bool) : okF (one01 b) := by
  cases b
  · exact okF_int (n := 0) (by unfold i64B; omega)
  · exact okF_int (n := 1) (by unfold i64B; omega)
theorem truth_ok (b : Bool) : ACalls Tryz.prog 46 [cB b] (.tup [zF (one01 b), cI 0]) := by
  have n1 := Of_ok (if b then 1 else 0) 1 (by cases b <;> (unfold i64B; simp)) (by unfold i64B; omega) (by omega)
  rw [← one01_eq] at n1
  generalize one01 b = r at *
  cases b
  all_goals (
    simp only [Bool.false_eq_true, if_true, if_false] at n1
    refine ACalls.of_M TYok (qs := [zF r, cI 0]) [.cell 2 40, .tmp 3] 10 Tryz.func46 (by kernel_rfl) rfl rfl rfl fun G => ?_
    refine W.initA (hw := ?_)
    repeat' (first | ((first | apply U_); (first | exact QX.B TYok | exact QX.Ext TYok | exact QCd (n1)); exact rfl) | refine SX.Alloc TYok (h := ?_) | refine SX.Store TYok (h := ?_) | refine SC ?_ | (refine W.condA (ht := fun hb => ?_) (hf := fun hb => ?_) <;> (try simp at hb) <;> (try (exfalso; omega))))
    all_goals exact FinM.ret ResM.auto)
def lookF (names : List Str) (vals : List Rat) (s : Str) : Rs := if s ∈ names then .ok (nth vals (names.idxOf s)) else .err 14
theorem lookup_ok (names : List Str) (vals : List Rat) (s : Str) (hl : names.length ≤ 9223372036854775807) (he : names.length = vals.length) : ACalls Tryz.prog 45 [slS names, slQ vals, cS s] (resP (lookF names vals s)) := by
  have h1 := index_ok names s hl
  unfold lookF
  by_cases hm : s ∈ names
  · have hi := List.idxOf_lt_length_iff.2 hm
    rw [if_pos hm] at h1
    rw [if_pos hm]
    generalize names.idxOf s = i at *
    refine ACalls.of_M TYok (qs := [zF (nth vals i), cI 0]) [.cell 6 40, .tmp 7] 19 Tryz.func45 (by kernel_rfl) rfl rfl rfl fun G => ?_
    refine W.initA (hw := ?_)
    repeat' (first | ((first | apply U_); (first | exact QX.B TYok | exact QX.Idx TYok | exact QX.Build TYok | exact QCd (h1)); exact rfl) | refine SX.Alloc TYok (h := ?_) | refine SX.Store TYok (h := ?_) | refine SC ?_ | (refine W.condA (ht := fun hb => ?_) (hf := fun hb => ?_) <;> (try simp at hb) <;> (try (exfalso; omega))))
    all_goals exact FinM.ret ResM.auto
  · rw [if_neg hm] at h1
    rw [if_neg hm]
    refine ACalls.of_M TYok (qs := [zF0, cI 14]) [.cell 6 40, .tmp 7] 19 Tryz.func45 (by kernel_rfl) rfl rfl rfl fun G => ?_
    refine W.initA (hw := ?_)
    repeat' (first | ((first | apply U_); (first | exact QX.B TYok | exact QX.Idx TYok | exact QX.Build TYok | exact QCd (h1)); exact rfl) | refine SX.Alloc TYok (h := ?_) | refine SX.Store TYok (h := ?_) | refine SC ?_ | (refine W.condA (ht := fun hb => ?_) (hf := fun hb => ?_) <;> (try simp at hb) <;> (try (exfalso; omega))))
    all_goals exact FinM.ret (ResM.cell rfl rfl rfl rfl zeroSubF (ResM.tmp rfl rfl PSub.rfl' ResM.nil))
open Classical in
noncomputable def addR (a b : Rat) : Rs := if addOk a b then .ok (a + b) else .err 6
open Classical in
noncomputable def subR (a b : Rat) : Rs := if subOk a b then .ok (a - b) else .err 6
open Classical in
noncomputable def mulR (a b : Rat) : Rs := if mulOk a b then .ok (a * b) else .err 6
open Classical in
noncomputable def divR (a b : Rat) : Rs := if b.num = 0 then .err 15 else if divOk a b then .ok (a / b) else .err 6
noncomputable def binF (op : Int) (a b : Rat) : Rs :=
  if op = 4 then addR a b else if op = 5 then subR a b else if op = 6 then mulR a b else if op = 7 then divR a b
  else if op = 8 then .ok (if cmpR a b ≤ 0 then a else b) else if op = 9 then .ok (if cmpR a b ≤ 0 then b else a)
  else if op = 10 then .ok (one01 (decide (cmpR a b < 0))) else if op = 11 then .ok (one01 (decide (cmpR a b = 0))) else .ok (one01 (!decide (sgn b.num = 0)))
theorem addR_fit (a b : Rat) : (addR a b).fit := by
  unfold addR; split
  · exact addOk_okF ‹_›
  · exact (by decide : (6 : Int) ≠ 0)
theorem subR_fit (a b : Rat) : (subR a b).fit := by
  unfold subR; split
  · rw [Rat.sub_eq_add_neg]; exact addOk_okF ((sub_add a b).1 ‹_›)
  · exact (by decide : (6 : Int) ≠ 0)
theorem mulR_fit (a b : Rat) : (mulR a b).fit := by
  unfold mulR; split
  · exact mulOk_okF ‹_›
  · exact (by decide : (6 : Int) ≠ 0)
theorem divR_fit (a b : Rat) : (divR a b).fit := by
  unfold divR; split
  · exact (by decide : (15 : Int) ≠ 0)
  · split
    · rename_i h0 h
      rw [show (Rs.ok (a / b)).fit = okF (a / b) from rfl, rat_div a b h0]
      exact okF_of h.1 h.2 (mul_ne (den_ne a) h0)
    · exact (by decide : (6 : Int) ≠ 0)
theorem binF_fit (op : Int) {a b : Rat} (ha : okF a) (hb : okF b) : (binF op a b).fit := by
  unfold binF
  repeat' split
  · exact addR_fit a b
  · exact subR_fit a b
  · exact mulR_fit a b
  · exact divR_fit a b
  all_goals first
    | exact ha
    | exact hb
    | exact one01_ok _
    | (show okF _; split <;> assumption)
theorem add_all (a b : Rat) (ha : okF a) (hb : okF b) : ACalls Tryz.prog 70 [zF a, zF b] (resP (addR a b)) := by
  unfold addR; split
  · exact add_yes a b ha hb ‹_›
  · exact add_no a b ha hb ‹_›
theorem sub_all (a b : Rat) (ha : okF a) (hb : okF b) : ACalls Tryz.prog 71 [zF a, zF b] (resP (subR a b)) := by
  unfold subR; split
  · exact fsub_yes a b ha hb ((sub_add a b).1 ‹_›)
  · exact fsub_no a b ha hb ‹_›
theorem mul_all (a b : Rat) (ha : okF a) (hb : okF b) : ACalls Tryz.prog 72 [zF a, zF b] (resP (mulR a b)) := by
  unfold mulR; split
  · exact fmul_yes a b ha hb ‹_›
  · exact fmul_no a b ha hb ‹_›
theorem div_all (a b : Rat) (ha : okF a) (hb : okF b) : ACalls Tryz.prog 73 [zF a, zF b] (resP (divR a b)) := by
  unfold divR; split
  · exact fdiv_zero a b ha hb ‹_›
  · split
    · exact fdiv_yes a b ha hb ‹_› ‹_›
    · exact fdiv_no a b ha hb ‹_› ‹_›
attribute [local irreducible] sgn mag gcdZ quoZ remZ fullZ fullE
theorem Rs.v_agg (R : Rs) : ∃ (x1 : Int) (x2 : List Int) (x3 : Int) (x4 : List Int), R.v = .agg [.int .i64 x1, .sl (x2.map Lf.encI), .int .i64 x3, .sl (x4.map Lf.encI)] := by
  cases R with
  | ok r => exact ⟨_, _, _, _, rfl⟩
  | err e => exact ⟨0, [], 0, [], rfl⟩
theorem bin_call {op : Int} {f : Nat} {a b : Rat} {R : Rs} (ha : okF a) (hb : okF b) (hf : (op = 4 ∧ f = 70) ∨ (op = 5 ∧ f = 71) ∨ (op = 6 ∧ f = 72) ∨ (op = 7 ∧ f = 73)) (hc : ACalls Tryz.prog f [zF a, zF b] (resP R)) : ACalls Tryz.prog 47 [cI op, zF a, zF b] (resP R) := by
  have h1 := fcmp_ok a b ha hb
  obtain ⟨x1, x2, x3, x4, hv⟩ := R.v_agg
  unfold resP at hc ⊢
  rw [hv] at hc ⊢
  generalize R.e = e at *
  generalize cmpR a b = c at *
  rcases hf with ⟨rfl, rfl⟩ | ⟨rfl, rfl⟩ | ⟨rfl, rfl⟩ | ⟨rfl, rfl⟩
  all_goals (
    refine ACalls.of_M TYok (qs := [.agg [.int .i64 x1, .sl (x2.map Lf.encI), .int .i64 x3, .sl (x4.map Lf.encI)], cI e]) [.cell 6 40, .tmp 7] 72 Tryz.func47 (by kernel_rfl) rfl rfl rfl fun G => ?_
    refine W.initA (hw := ?_)
    repeat' (first | ((first | apply U_); (first | exact QX.B TYok | exact QX.Ext TYok | exact QCd (h1) | exact QCd (hc)); exact rfl) | refine SX.Alloc TYok (h := ?_) | refine SX.Store TYok (h := ?_) | refine SX.Box TYok (h := ?_) | refine SC ?_ | (apply S_isnil TYok; exact rfl; exact rfl; exact rfl; exact Ev.auto; intro bn hnil) | (refine W.condA (ht := fun hb => ?_) (hf := fun hb => ?_) <;> (try simp at hb) <;> (try (exfalso; omega))))
    all_goals exact FinM.ret ResM.auto)
theorem bin_truth {op : Int} {a b : Rat} (ha : okF a) (hb : okF b) (hop : op = 10 ∨ op = 11 ∨ op = 13 ∨ op = 14) : ACalls Tryz.prog 47 [cI op, zF a, zF b] (.tup [zF (one01 (if op = 10 then decide (cmpR a b < 0) else if op = 11 then decide (cmpR a b = 0) else !decide (sgn b.num = 0))), cI 0]) := by
  have h1 := fcmp_ok a b ha hb
  rcases hop with rfl | rfl | rfl | rfl
  · rw [if_pos rfl]
    have t1 := truth_ok (decide (cmpR a b < 0))
    generalize cmpR a b = c at *
    generalize one01 (decide (c < 0)) = r at *
    refine ACalls.of_M TYok (qs := [zF r, cI 0]) [.cell 6 40, .tmp 7] 72 Tryz.func47 (by kernel_rfl) rfl rfl rfl fun G => ?_
    refine W.initA (hw := ?_)
    repeat' (first | ((first | apply U_); (first | exact QX.B TYok | exact QX.Ext TYok | exact QCd (h1) | exact QCd (t1)); exact rfl) | refine SX.Alloc TYok (h := ?_) | refine SX.Store TYok (h := ?_) | refine SX.Box TYok (h := ?_) | refine SC ?_ | (apply S_isnil TYok; exact rfl; exact rfl; exact rfl; exact Ev.auto; intro bn hnil) | (refine W.condA (ht := fun hb => ?_) (hf := fun hb => ?_) <;> (try simp at hb) <;> (try (exfalso; omega))))
    all_goals exact FinM.ret ResM.auto
  · rw [if_neg (by omega), if_pos rfl]
    have t1 := truth_ok (decide (cmpR a b = 0))
    generalize cmpR a b = c at *
    generalize one01 (decide (c = 0)) = r at *
    refine ACalls.of_M TYok (qs := [zF r, cI 0]) [.cell 6 40, .tmp 7] 72 Tryz.func47 (by kernel_rfl) rfl rfl rfl fun G => ?_
    refine W.initA (hw := ?_)
    repeat' (first | ((first | apply U_); (first | exact QX.B TYok | exact QX.Ext TYok | exact QCd (h1) | exact QCd (t1)); exact rfl) | refine SX.Alloc TYok (h := ?_) | refine SX.Store TYok (h := ?_) | refine SX.Box TYok (h := ?_) | refine SC ?_ | (apply S_isnil TYok; exact rfl; exact rfl; exact rfl; exact Ev.auto; intro bn hnil) | (refine W.condA (ht := fun hb => ?_) (hf := fun hb => ?_) <;> (try simp at hb) <;> (try (exfalso; omega))))
    all_goals exact FinM.ret ResM.auto
  all_goals (
    rw [if_neg (by omega), if_neg (by omega)]
    have t1 := truth_ok (!decide (sgn b.num = 0))
    generalize cmpR a b = c at *
    generalize one01 (!decide (sgn b.num = 0)) = r at *
    refine ACalls.of_M TYok (qs := [zF r, cI 0]) [.cell 6 40, .tmp 7] 72 Tryz.func47 (by kernel_rfl) rfl rfl rfl fun G => ?_
    refine W.initA (hw := ?_)
    repeat' (first | ((first | apply U_); (first | exact QX.B TYok | exact QX.Ext TYok | exact QCd (h1) | exact QCd (t1)); exact rfl) | refine SX.Alloc TYok (h := ?_) | refine SX.Store TYok (h := ?_) | refine SX.Box TYok (h := ?_) | refine SC ?_ | (apply S_isnil TYok; exact rfl; exact rfl; exact rfl; exact Ev.auto; intro bn hnil) | (refine W.condA (ht := fun hb => ?_) (hf := fun hb => ?_) <;> (try simp at hb) <;> (try (exfalso; omega))))
    all_goals exact FinM.ret ResM.auto)
theorem bin_pick {op : Int} {a b : Rat} (ha : okF a) (hb : okF b) (hop : op = 8 ∨ op = 9) : ACalls Tryz.prog 47 [cI op, zF a, zF b] (.tup [zF (if op = 8 then (if cmpR a b ≤ 0 then a else b) else (if cmpR a b ≤ 0 then b else a)), cI 0]) := by
  have h1 := fcmp_ok a b ha hb
  rcases hop with rfl | rfl
  · rw [if_pos rfl]
    generalize cmpR a b = c at *
    by_cases hc : c ≤ 0
    · rw [if_pos hc]
      refine ACalls.of_M TYok (qs := [zF a, cI 0]) [.cell 6 40, .tmp 7] 72 Tryz.func47 (by kernel_rfl) rfl rfl rfl fun G => ?_
      refine W.initA (hw := ?_)
      repeat' (first | ((first | apply U_); (first | exact QX.B TYok | exact QX.Ext TYok | exact QCd (h1)); exact rfl) | refine SX.Alloc TYok (h := ?_) | refine SX.Store TYok (h := ?_) | refine SX.Box TYok (h := ?_) | refine SC ?_ | (apply S_isnil TYok; exact rfl; exact rfl; exact rfl; exact Ev.auto; intro bn hnil) | (refine W.condA (ht := fun hb => ?_) (hf := fun hb => ?_) <;> (try simp at hb) <;> (try (exfalso; omega))))
      all_goals exact FinM.ret ResM.auto
    · rw [if_neg hc]
      refine ACalls.of_M TYok (qs := [zF b, cI 0]) [.cell 6 40, .tmp 7] 72 Tryz.func47 (by kernel_rfl) rfl rfl rfl fun G => ?_
      refine W.initA (hw := ?_)
      repeat' (first | ((first | apply U_); (first | exact QX.B TYok | exact QX.Ext TYok | exact QCd (h1)); exact rfl) | refine SX.Alloc TYok (h := ?_) | refine SX.Store TYok (h := ?_) | refine SX.Box TYok (h := ?_) | refine SC ?_ | (apply S_isnil TYok; exact rfl; exact rfl; exact rfl; exact Ev.auto; intro bn hnil) | (refine W.condA (ht := fun hb => ?_) (hf := fun hb => ?_) <;> (try simp at hb) <;> (try (exfalso; omega))))
      all_goals exact FinM.ret ResM.auto
  · rw [if_neg (by omega)]
    generalize cmpR a b = c at *
    by_cases hc : c ≤ 0
    · rw [if_pos hc]
      refine ACalls.of_M TYok (qs := [zF b, cI 0]) [.cell 6 40, .tmp 7] 72 Tryz.func47 (by kernel_rfl) rfl rfl rfl fun G => ?_
      refine W.initA (hw := ?_)
      repeat' (first | ((first | apply U_); (first | exact QX.B TYok | exact QX.Ext TYok | exact QCd (h1)); exact rfl) | refine SX.Alloc TYok (h := ?_) | refine SX.Store TYok (h := ?_) | refine SX.Box TYok (h := ?_) | refine SC ?_ | (apply S_isnil TYok; exact rfl; exact rfl; exact rfl; exact Ev.auto; intro bn hnil) | (refine W.condA (ht := fun hb => ?_) (hf := fun hb => ?_) <;> (try simp at hb) <;> (try (exfalso; omega))))
      all_goals exact FinM.ret ResM.auto
    · rw [if_neg hc]
      refine ACalls.of_M TYok (qs := [zF a, cI 0]) [.cell 6 40, .tmp 7] 72 Tryz.func47 (by kernel_rfl) rfl rfl rfl fun G => ?_
      refine W.initA (hw := ?_)
      repeat' (first | ((first | apply U_); (first | exact QX.B TYok | exact QX.Ext TYok | exact QCd (h1)); exact rfl) | refine SX.Alloc TYok (h := ?_) | refine SX.Store TYok (h := ?_) | refine SX.Box TYok (h := ?_) | refine SC ?_ | (apply S_isnil TYok; exact rfl; exact rfl; exact rfl; exact Ev.auto; intro bn hnil) | (refine W.condA (ht := fun hb => ?_) (hf := fun hb => ?_) <;> (try simp at hb) <;> (try (exfalso; omega))))
      all_goals exact FinM.ret ResM.auto
theorem binary_ok (op : Int) {a b : Rat} (ha : okF a) (hb : okF b) (hop : (4 ≤ op ∧ op ≤ 11) ∨ op = 13 ∨ op = 14) : ACalls Tryz.prog 47 [cI op, zF a, zF b] (resP (binF op a b)) := by
  by_cases h4 : op = 4
  · subst h4; exact bin_call ha hb (.inl ⟨rfl, rfl⟩) (add_all a b ha hb)
  by_cases h5 : op = 5
  · subst h5; exact bin_call ha hb (.inr (.inl ⟨rfl, rfl⟩)) (sub_all a b ha hb)
  by_cases h6 : op = 6
  · subst h6; exact bin_call ha hb (.inr (.inr (.inl ⟨rfl, rfl⟩))) (mul_all a b ha hb)
  by_cases h7 : op = 7
  · subst h7; exact bin_call ha hb (.inr (.inr (.inr ⟨rfl, rfl⟩))) (div_all a b ha hb)
  unfold binF
  rw [if_neg h4, if_neg h5, if_neg h6, if_neg h7]
  by_cases h8 : op = 8
  · subst h8; exact bin_pick ha hb (.inl rfl)
  by_cases h9 : op = 9
  · subst h9; exact bin_pick ha hb (.inr rfl)
  rw [if_neg h8, if_neg h9]
  have ht := bin_truth (op := op) ha hb (by omega)
  by_cases h10 : op = 10
  · subst h10; exact ht
  by_cases h11 : op = 11
  · subst h11; exact ht
  rw [if_neg h10, if_neg h11] at ht ⊢
  exact ht
end
end Go.Proofs.YtjedkgogjehigaaGreat
end
section
set_option linter.unusedVariables false
set_option linter.unusedSimpArgs false
set_option maxHeartbeats 8000000
set_option linter.unusedSectionVars false
namespace Go.Proofs.YtjedkgogjehigaaGreat
open Lf Go
attribute [local irreducible] PureOp EffOp Ev RG W Then InBlock Lf.Fin nth App InitE Pick SubE EvL EvD EvP EvR ResL Lf.Lex SubR SubBR EvC FinO FinM ResM ResD FinS val pw digs trimL
section
mutual
def tempF : Exp → Bool
  | .mk op _ _ _ l => ((decide (op = 16) || decide (op = 17)) || decide (op = 18)) || tempFs l
def tempFs : List Exp → Bool
  | [] => false
  | e :: r => tempF e || tempFs r
end
theorem tempFs_any : ∀ l, tempFs l = l.any tempF
  | [] => rfl
  | e :: r => by rw [tempFs, tempFs_any r]; rfl
theorem temp_ok (e : Exp) : OkE e → ACalls Tryz.prog 38 [aE e] (.pv (cB (tempF e))) := by
  refine Exp.ind (P := fun e => OkE e → ACalls Tryz.prog 38 [aE e] (.pv (cB (tempF e)))) (fun op n u s l ih he => ?_) e
  cases he with
  | mk hs hl h =>
  rw [aE_mk, tempF, tempFs_any]
  have hc := containsE_ok l 38 [] tempF hl (fun x hx => ih x hx (h x hx))
  generalize l.any tempF = b at *
  refine ACalls.of_W (qs := [cB (((decide (op = 16) || decide (op = 17)) || decide (op = 18)) || b)]) [2] 21 Tryz.func38 (by kernel_rfl) rfl rfl rfl fun G => ?_
  refine W.initA (hw := ?_)
  repeat' (first | ((first | apply U_ | (apply Ug_; exact rfl; exact rfl) | (apply Ugq_; exact rfl; exact rfl)); (first | exact QX.B TYok | exact QCl (hc)); exact rfl) | refine SX.Box TYok (h := ?_) | refine SC ?_ | (apply S_isnil TYok; exact rfl; exact rfl; exact rfl; exact Ev.auto; intro bn hnil) | (apply RG.gT; exact rfl; exact rfl; (first | assumption | decide)) | (apply RG.gF; exact rfl; exact rfl; (first | assumption | decide | (rw [ne_eq, Bool.not_eq_true]; assumption) | (rw [ne_eq, Bool.not_eq_false]; assumption)); exact rfl) | (refine W.condA (ht := fun hb => ?_) (hf := fun hb => ?_) <;> (try simp at hb) <;> (try (exfalso; omega))))
  exact Fin.ret ResL.auto
theorem rightExp_ok (e : Exp) (he : OkE e) : ACalls Tryz.prog 30 [aE e] (.pv (cB (rightF 12 e))) := by
  have h := rightE_ok 12 e (by omega) he
  refine ACalls.of_W (qs := [cB (rightF 12 e)]) [2] 5 Tryz.func30 (by kernel_rfl) rfl rfl rfl fun G => ?_
  refine W.initA (hw := ?_)
  repeat' (first | ((first | apply U_); (first | exact QX.B TYok | exact QCd (h)); exact rfl) | refine SX.Box TYok (h := ?_) | refine SC ?_ | (refine W.condA (ht := fun hb => ?_) (hf := fun hb => ?_) <;> (try simp at hb) <;> (try (exfalso; omega))))
  exact Fin.ret ResL.auto
def statF (e : Exp) : Bool := rightF 12 e && !tempF e
theorem stat_ok (e : Exp) (he : OkE e) : ACalls Tryz.prog 20 [aE e] (.pv (cB (statF e))) := by
  have h1 := rightExp_ok e he
  have h2 := temp_ok e he
  unfold statF
  generalize rightF 12 e = b1 at *
  generalize tempF e = b2 at *
  refine ACalls.of_W (qs := [cB (b1 && !b2)]) [2] 10 Tryz.func20 (by kernel_rfl) rfl rfl rfl fun G => ?_
  refine W.initA (hw := ?_)
  repeat' (first | ((first | apply U_ | (apply Ug_; exact rfl; exact rfl) | (apply Ugq_; exact rfl; exact rfl)); (first | exact QX.B TYok | exact QCd (h1) | exact QCd (h2)); exact rfl) | refine SX.Box TYok (h := ?_) | refine SC ?_ | (apply RG.gT; exact rfl; exact rfl; (first | assumption | decide)) | (apply RG.gF; exact rfl; exact rfl; (first | assumption | decide | (rw [ne_eq, Bool.not_eq_true]; assumption) | (rw [ne_eq, Bool.not_eq_false]; assumption)); exact rfl) | (refine W.condA (ht := fun hb => ?_) (hf := fun hb => ?_) <;> (try simp at hb) <;> (try (exfalso; omega))))
  exact Fin.ret ResL.auto
theorem badL_ok (y : Let) (h : OkE y.body) : ACalls Tryz.prog 22 [aL y] (.pv (cB (!statF y.body))) := by
  have q := stat_ok y.body h
  generalize statF y.body = b at *
  refine ACalls.of_W (qs := [cB (!b)]) [2] 7 Tryz.func22 (by kernel_rfl) rfl rfl rfl fun G => ?_
  refine W.initA (hw := ?_)
  repeat' (first | ((first | apply U_); (first | exact QX.B TYok | exact QCd (q)); exact rfl) | refine SX.Box TYok (h := ?_) | refine SC ?_ | (refine W.condA (ht := fun hb => ?_) (hf := fun hb => ?_) <;> (try simp at hb) <;> (try (exfalso; omega))))
  exact Fin.ret ResL.auto
theorem badF_ok (q : Fq) (h : FqOk q) : ACalls Tryz.prog 40 [fqV q] (.pv (cB (!q.right))) := by
  have r1 := fright_ok q.s q.d q.s' q.d' h.1 h.2
  rw [show rightFB q.s q.d q.s' q.d' = q.right from rfl] at r1
  generalize q.right = b at *
  refine ACalls.of_W (qs := [cB (!b)]) [2] 6 Tryz.func40 (by kernel_rfl) rfl rfl rfl fun G => ?_
  refine W.initA (hw := ?_)
  repeat' (first | ((first | apply U_); (first | exact QX.B TYok | exact QCd (r1)); exact rfl) | refine SX.Box TYok (h := ?_) | refine SC ?_ | (refine W.condA (ht := fun hb => ?_) (hf := fun hb => ?_) <;> (try simp at hb) <;> (try (exfalso; omega))))
  exact Fin.ret ResL.auto
theorem valid_ok (v : EnvV) (h : v.Len) : ACalls Tryz.prog 23 [.agg (encEnv v)] (.pv (cB (validF v))) := by
  have c1 := containsF_ok v.vals 40 [] (fun q => !q.right) h.h2 (fun x hx => badF_ok x (h.q1 x hx))
  have c2 := containsF_ok v.rates 40 [] (fun q => !q.right) h.h4 (fun x hx => badF_ok x (h.q2 x hx))
  obtain ⟨N, V, I, R⟩ := v
  unfold validF
  simp only at c1 c2 ⊢
  generalize (V.any fun q => !q.right) = b1 at *
  generalize (R.any fun q => !q.right) = b2 at *
  refine ACalls.of_W (qs := [cB (((decide ((N.length : Int) = V.length) && decide ((I.length : Int) = R.length)) && !b1) && !b2)]) [2] 34 Tryz.func23 (by kernel_rfl) rfl rfl rfl fun G => ?_
  refine W.initA (hw := ?_)
  repeat' (first | ((first | apply U_ | (apply Ug_; exact rfl; exact rfl) | (apply Ugq_; exact rfl; exact rfl)); (first | exact QX.B TYok | exact QX.Len TYok | exact QCd (c1) | exact QCd (c2)); exact rfl) | refine SX.Box TYok (h := ?_) | refine SC ?_ | (apply S_isnil TYok; exact rfl; exact rfl; exact rfl; exact Ev.auto; intro bn hnil) | (apply RG.gT; exact rfl; exact rfl; (first | assumption | decide)) | (apply RG.gF; exact rfl; exact rfl; (first | assumption | decide | (rw [ne_eq, Bool.not_eq_true]; assumption) | (rw [ne_eq, Bool.not_eq_false]; assumption)); exact rfl) | (refine W.condA (ht := fun hb => ?_) (hf := fun hb => ?_) <;> (try simp at hb) <;> (try (exfalso; omega))))
  all_goals exact Fin.ret ResL.auto
end
end Go.Proofs.YtjedkgogjehigaaGreat
end
section
set_option linter.unusedVariables false
set_option linter.unusedSimpArgs false
set_option maxHeartbeats 8000000
set_option linter.unusedSectionVars false
namespace Go.Proofs.YtjedkgogjehigaaGreat
open Lf Go
attribute [local irreducible] PureOp EffOp Ev RG W Then InBlock Lf.Fin nth App InitE Pick SubE EvL EvD EvP EvR ResL Lf.Lex SubR SubBR EvC FinO FinM ResM ResD FinS val pw digs trimL
section
structure EnvQ where
  names : List Str
  vals : List Rat
  iss : List Str
  rates : List Rat
/-- the value of a name, among the definitions whose values are known -/
def nameEq (s : Str) (y : Let) : Bool := decide (y.name = s)
def lookN (lets : List Let) (vs : List Rs) (s : Str) : Rs := if (lets.take vs.length).any (nameEq s) then nth vs ((lets.take vs.length).findIdx (nameEq s)) else .err 14
noncomputable def stepF (lets : List Let) (en : EnvQ) (vs : List Rs) (op n u : Int) (s : Str) (A : List Rs) : Rs :=
  if op = 0 then .ok (if u = 2 then Rat.divInt n 1000 else Rat.divInt n 1)
  else if op = 1 then lookN lets vs s
  else if op = 2 then lookF en.names en.vals s
  else if op = 3 then lookF en.iss en.rates s
  else match nth A 0 with
  | .err e => .err e
  | .ok a =>
    if op = 12 then .ok (one01 (decide (sgn a.num = 0)))
    else if op = 15 then (if sgn a.num = 0 then nth A 2 else nth A 1)
    else if op = 13 ∧ sgn a.num = 0 ∨ op = 14 ∧ sgn a.num ≠ 0 then .ok (one01 (!decide (sgn a.num = 0)))
    else match nth A 1 with
    | .err e => .err e
    | .ok b => binF op a b
mutual
noncomputable def evF (lets : List Let) (en : EnvQ) (vs : List Rs) : Exp → Rs
  | .mk op n u s l => stepF lets en vs op n u s (evFs lets en vs l)
noncomputable def evFs (lets : List Let) (en : EnvQ) (vs : List Rs) : List Exp → List Rs
  | [] => []
  | e :: r => evF lets en vs e :: evFs lets en vs r
end
theorem evFs_map (lets : List Let) (en : EnvQ) (vs : List Rs) : ∀ l, evFs lets en vs l = l.map (evF lets en vs)
  | [] => by rw [evFs]; rfl
  | e :: r => by rw [evFs, evFs_map lets en vs r]; rfl
theorem evF_mk (lets : List Let) (en : EnvQ) (vs : List Rs) (op n u : Int) (s : Str) (l : List Exp) : evF lets en vs (.mk op n u s l) = stepF lets en vs op n u s (l.map (evF lets en vs)) := by rw [evF, evFs_map]
/-- the values of the first definitions -/
noncomputable def tabF (lets : List Let) (en : EnvQ) : Nat → List Rs
  | 0 => []
  | k + 1 => tabF lets en k ++ [evF lets en (tabF lets en k) (nth lets k).body]
theorem tabF_len (lets : List Let) (en : EnvQ) : ∀ n, (tabF lets en n).length = n
  | 0 => rfl
  | k + 1 => by rw [tabF, List.length_append, tabF_len lets en k]; rfl
theorem tabF_nth (lets : List Let) (en : EnvQ) {i : Nat} : ∀ {n : Nat}, i < n → nth (tabF lets en n) i = evF lets en (tabF lets en i) (nth lets i).body
  | 0, h => by omega
  | n + 1, h => by
    rw [tabF]
    by_cases e : i = n
    · subst e
      rw [nth, List.getD_eq_getElem?_getD, List.getElem?_append_right (by rw [tabF_len]; omega), tabF_len, Nat.sub_self]; rfl
    · have := tabF_nth lets en (i := i) (n := n) (by omega)
      rw [nth, List.getD_eq_getElem?_getD] at this ⊢
      rw [List.getElem?_append_left (by rw [tabF_len]; omega)]; exact this
noncomputable def valF (lets : List Let) (en : EnvQ) (n : Nat) (e : Exp) : Rs := evF lets en (tabF lets en n) e
theorem nth_map2 {α β : Type} [Inhabited α] [Inhabited β] {f : α → β} {l : List α} {k : Nat} (h : k < l.length) : nth (l.map f) k = f (nth l k) := by
  rw [nth, nth, List.getD_eq_getElem?_getD, List.getD_eq_getElem?_getD, List.getElem?_map, List.getElem?_eq_getElem h]; rfl
structure EnvQ.Ok (en : EnvQ) : Prop where
  v : ∀ r ∈ en.vals, okF r
  r : ∀ r ∈ en.rates, okF r
  l1 : en.names.length = en.vals.length
  l2 : en.iss.length = en.rates.length
  b1 : en.names.length ≤ 9223372036854775807
  b2 : en.iss.length ≤ 9223372036854775807
theorem lookF_fit {names : List Str} {vals : List Rat} {s : Str} (h : names.length = vals.length) (hv : ∀ r ∈ vals, okF r) : (lookF names vals s).fit := by
  unfold lookF
  split
  · rename_i hm
    exact hv _ (nth_mem (by have := List.idxOf_lt_length_iff.2 hm; omega))
  · exact (by decide : (14 : Int) ≠ 0)
theorem lookN_fit {lets : List Let} {vs : List Rs} {s : Str} (h : ∀ R ∈ vs, R.fit) : (lookN lets vs s).fit := by
  unfold lookN
  split
  · rename_i hm
    have hi := List.findIdx_lt_length_of_exists (List.any_eq_true.1 hm)
    exact h _ (nth_mem (by rw [List.length_take] at hi; omega))
  · exact (by decide : (14 : Int) ≠ 0)
theorem i64_15 {n : Int} (h : inF 0 1000000000000000 n = true) : i64B n := by
  unfold inF at h
  simp only [Bool.and_eq_true, decide_eq_true_iff] at h
  unfold i64B; omega
theorem opsF_two {op : Int} (h : opsF op = 2) : (4 ≤ op ∧ op ≤ 11) ∨ op = 13 ∨ op = 14 := by
  unfold opsF at h
  repeat' split at h
  all_goals omega
theorem opsF_cases {op : Int} {k : Nat} (h : (k : Int) = opsF op) : ((op = 0 ∨ op = 1 ∨ op = 2 ∨ op = 3) ∧ k = 0) ∨ ((op = 12 ∨ op = 16 ∨ op = 17 ∨ op = 18) ∧ k = 1) ∨ (op = 15 ∧ k = 3) ∨ (((4 ≤ op ∧ op ≤ 11) ∨ op = 13 ∨ op = 14) ∧ k = 2) := by
  by_cases h2 : opsF op = 2
  · have := opsF_two h2; omega
  unfold opsF at h h2
  repeat' split at h
  all_goals (first | omega | (exfalso; split at h2 <;> (try split at h2) <;> (try split at h2) <;> (try split at h2) <;> omega))
/-- what a right expression that is not about days looks like -/
theorem stat_cases {d : Nat} {op n u : Int} {s : Str} {l : List Exp} (hr : rightF (d + 1) (.mk op n u s l) = true) (ht : tempF (.mk op n u s l) = false) :
    (op = 0 ∧ l = [] ∧ i64B n) ∨ (op = 1 ∧ l = []) ∨ (op = 2 ∧ l = []) ∨ (op = 3 ∧ l = []) ∨ ((op = 12 ∧ l.length = 1 ∨ op = 15 ∧ l.length = 3 ∨ ((4 ≤ op ∧ op ≤ 11) ∨ op = 13 ∨ op = 14) ∧ l.length = 2) ∧ ∀ x ∈ l, rightF d x = true ∧ tempF x = false) := by
  rw [rightF] at hr
  rw [tempF, tempFs_any] at ht
  simp only [Bool.and_eq_true, decide_eq_true_iff, Bool.or_eq_false_iff, decide_eq_false_iff_not] at hr ht
  obtain ⟨h1, h2⟩ := hr
  obtain ⟨⟨⟨t1, t2⟩, t3⟩, t4⟩ := ht
  have tl : ∀ x ∈ l, tempF x = false := fun x hx => by
    cases h : tempF x with
    | false => rfl
    | true => rw [List.any_eq_true.2 ⟨x, hx, h⟩] at t4; cases t4
  rcases opsF_cases h1 with ⟨q, hk⟩ | ⟨q, hk⟩ | ⟨q, hk⟩ | ⟨q, hk⟩
  · have hl : l = [] := List.length_eq_zero_iff.1 hk
    rcases q with rfl | rfl | rfl | rfl
    · refine .inl ⟨rfl, hl, ?_⟩
      rw [if_pos rfl] at h2
      simp only [Bool.and_eq_true] at h2
      have h3 := h2.2
      split at h3
      · unfold inF at h3
        simp only [Bool.and_eq_true, decide_eq_true_iff] at h3
        unfold i64B; omega
      · exact i64_15 h3
    · exact .inr (.inl ⟨rfl, hl⟩)
    · exact .inr (.inr (.inl ⟨rfl, hl⟩))
    · exact .inr (.inr (.inr (.inl ⟨rfl, hl⟩)))
  all_goals (
    rw [if_neg (by omega), if_neg (by omega), if_neg (by omega)] at h2
    simp only [Bool.and_eq_true, List.all_eq_true] at h2
    exact .inr (.inr (.inr (.inr ⟨by omega, fun x hx => ⟨h2.2 x hx, tl x hx⟩⟩))))
theorem evF_fit {lets : List Let} {en : EnvQ} (he : en.Ok) {vs : List Rs} (hv : ∀ R ∈ vs, R.fit) : ∀ (d : Nat) (e : Exp), rightF d e = true → tempF e = false → (evF lets en vs e).fit
  | 0, .mk op n u s l, hr, _ => by rw [rightF] at hr; cases hr
  | d + 1, .mk op n u s l, hr, ht => by
    rw [evF_mk]
    unfold stepF
    rcases stat_cases hr ht with ⟨rfl, rfl, hn⟩ | ⟨rfl, rfl⟩ | ⟨rfl, rfl⟩ | ⟨rfl, rfl⟩ | ⟨h1, h2⟩
    · rw [if_pos rfl]
      split
      · exact okF_of (i64_ok hn) (i64_ok (by unfold i64B; omega)) (by omega)
      · exact okF_of (i64_ok hn) (i64_ok (by unfold i64B; omega)) (by omega)
    · exact lookN_fit hv
    · exact lookF_fit he.l1 he.v
    · exact lookF_fit he.l2 he.r
    · rw [if_neg (by omega), if_neg (by omega), if_neg (by omega), if_neg (by omega)]
      have ih : ∀ k, k < l.length → (nth (l.map (evF lets en vs)) k).fit := fun k hk => by
        rw [nth_map2 hk]
        exact evF_fit he hv d _ (h2 _ (nth_mem hk)).1 (h2 _ (nth_mem hk)).2
      have i0 := ih 0 (by omega)
      cases h0 : nth (l.map (evF lets en vs)) 0 with
      | err e => rw [h0] at i0; exact i0
      | ok a =>
        rw [h0] at i0
        dsimp only
        split
        · exact one01_ok _
        · split
          · split
            · exact ih 2 (by omega)
            · exact ih 1 (by omega)
          · split
            · exact one01_ok _
            · have i1 := ih 1 (by omega)
              cases h1 : nth (l.map (evF lets en vs)) 1 with
              | err e => rw [h1] at i1; exact i1
              | ok b => rw [h1] at i1; exact binF_fit op i0 i1
/-- definitions that are right -/
def LetsOk (lets : List Let) : Prop := lets.length ≤ 20 ∧ ∀ y ∈ lets, statF y.body = true ∧ OkE y.body
theorem statF_yes {e : Exp} (h : statF e = true) : rightF 12 e = true ∧ tempF e = false := by
  unfold statF at h
  simpa using h
theorem tabF_fit {lets : List Let} {en : EnvQ} (he : en.Ok) (hl : LetsOk lets) : ∀ n, n ≤ lets.length → ∀ R ∈ tabF lets en n, R.fit
  | 0, _, R, hR => by rw [tabF] at hR; cases hR
  | n + 1, hn, R, hR => by
    rw [tabF] at hR
    rcases List.mem_append.1 hR with h | h
    · exact tabF_fit he hl n (by omega) R h
    · obtain rfl := List.mem_singleton.1 h
      have := statF_yes (hl.2 _ (nth_mem (show n < lets.length by omega))).1
      exact evF_fit he (tabF_fit he hl n (by omega)) 12 _ this.1 this.2
end
end Go.Proofs.YtjedkgogjehigaaGreat
end
section
set_option linter.unusedVariables false
set_option linter.unusedSimpArgs false
set_option maxHeartbeats 8000000
set_option linter.unusedSectionVars false
namespace Go.Proofs.YtjedkgogjehigaaGreat
open Lf Go
attribute [local irreducible] PureOp EffOp Ev RG W Then InBlock Lf.Fin nth App InitE Pick SubE EvL EvD EvP EvR ResL Lf.Lex SubR SubBR EvC FinO FinM ResM ResD FinS val pw digs trimL
section
theorem KI : KeyK Tryz.prog 3 kI := KeyK.int (by kernel_rfl)
theorem mget_mput {γ : Type} : ∀ (M : List (Int × γ)) (k s : Int) (v : γ), mget (mput M k v) s = if k = s then some v else mget M s
  | [], k, s, v => by rw [mput, mget, mget]; split <;> rfl
  | (j, y) :: r, k, s, v => by
    rw [mput]
    by_cases h : j = k
    · subst h
      rw [if_pos rfl, mget, mget]
      by_cases h2 : j = s
      · rw [if_pos h2, if_pos h2]
      · rw [if_neg h2, if_neg h2]; simp [h2]
    · rw [if_neg h, mget, mget, mget_mput r k s v]
      by_cases h2 : j = s
      · subst h2; rw [if_pos rfl, if_neg (Ne.symm h), if_pos rfl]
      · rw [if_neg h2, if_neg h2]
/-- what the pointer shows -/
abbrev cellsR (lets : List Let) (en : EnvQ) (b : Nat) : List Cell := [.sl (lets.map encL), .sl (en.names.map encS), .sl (en.vals.map encQ), .sl (en.iss.map encS), .sl (en.rates.map encQ), .mpa b]
def InvM (lets : List Let) (en : EnvQ) (M : List (Int × Rat)) : Prop := ∀ k v, mget M k = some v → 0 ≤ k ∧ k < lets.length ∧ nth (tabF lets en lets.length) k.toNat = .ok v
def InvR (lets : List Let) (en : EnvQ) (rows : List (List Cell)) : Prop := ∃ M : List (Int × Rat), rows = M.map (mrow kI encQ) ∧ InvM lets en M
theorem name1_ok (y : Let) (s : Str) : ACalls Tryz.prog 67 [aL y, .one (.ptr [.str s])] (.pv (cB (nameEq s y))) := by
  unfold nameEq
  refine ACalls.of_W (qs := [cB (decide (y.name = s))]) [3] 8 Tryz.func67 (by kernel_rfl) rfl rfl rfl fun G => ?_
  refine W.initA (hw := ?_)
  repeat' (first | ((first | apply U_); (first | exact QX.B TYok); exact rfl) | refine SX.Box TYok (h := ?_) | refine SC ?_ | (apply S_isnil TYok; exact rfl; exact rfl; exact rfl; exact Ev.auto; intro bn hnil) | (refine W.condA (ht := fun hb => ?_) (hf := fun hb => ?_) <;> (try simp at hb) <;> (try (exfalso; omega))))
  all_goals exact Fin.ret ResL.auto
theorem take_map {α : Type} {f : α → List Cell} (l : List α) (n : Nat) : (l.map f).take n = (l.take n).map f := (List.map_take).symm
variable {lets : List Let} {en : EnvQ}
abbrev VCalls (lets : List Let) (en : EnvQ) (f : Nat) (args : List PV) (R : Rs) : Prop := PCalls Tryz.prog f 4 (fun b => .one (.ptr (cellsR lets en b)) :: args) (resP R) (InvR lets en)
attribute [local irreducible] sgn mag gcdZ quoZ remZ fullZ fullE
theorem Q_lookS {P : Program} {G : Ghost} {T : TT} (hT : TOK P T) {n0 : Nat} {env : List (Nat × (Prop × AV))} {bl : List (Nat × Blk)} {p : Prop} {dst : Option Nat} {ty : TypeId} {pos : String} {after : Array Edge} {gd : Option (Nat × Bool)} {α γ : Type} [DecidableEq α] {kc : α → Cell} {kt : TypeId}
    (K : KeyK P kt kc) {t e n z : Nat} {m x : Operand} {ti te : TI} {vc : γ → List Cell} {M : List (α × γ)} {k : α} {v : γ} (hg : mget M k = some v) (hm : Ev (St.mk n0 env bl) p m (.mp n)) (hl : lk bl n = some ⟨mapTag, z, M.map (mrow kc vc)⟩)
    (hx : Ev (St.mk n0 env bl) p x (.pv (.one (kc k)))) (ht : T t = some ti) (hk : ti.kind = .map kt e) (he : T e = some te) : PureOp P G (St.mk n0 env bl) ⟨dst, .lookup t m x true, ty, pos, after, gd⟩ p (.tup [mapPV z (vc v), .one (.bool true)]) := by
  have := Q_lookup (G := G) (dst := dst) (ty := ty) (pos := pos) (after := after) (gd := gd) hT K (c := true) (vc := vc) (M := M) (k := k) (r := mapPV z (vc v)) hm hl hx ht hk he (by rw [hg])
  rw [hg] at this
  exact this
theorem Q_lookN {P : Program} {G : Ghost} {T : TT} (hT : TOK P T) {n0 : Nat} {env : List (Nat × (Prop × AV))} {bl : List (Nat × Blk)} {p : Prop} {dst : Option Nat} {ty : TypeId} {pos : String} {after : Array Edge} {gd : Option (Nat × Bool)} {α γ : Type} [DecidableEq α] {kc : α → Cell} {kt : TypeId}
    (K : KeyK P kt kc) {t e n z : Nat} {m x : Operand} {ti te : TI} {vc : γ → List Cell} {M : List (α × γ)} {k : α} (hg : mget M k = none) (hm : Ev (St.mk n0 env bl) p m (.mp n)) (hl : lk bl n = some ⟨mapTag, z, M.map (mrow kc vc)⟩)
    (hx : Ev (St.mk n0 env bl) p x (.pv (.one (kc k)))) (ht : T t = some ti) (hk : ti.kind = .map kt e) (he : T e = some te) : PureOp P G (St.mk n0 env bl) ⟨dst, .lookup t m x true, ty, pos, after, gd⟩ p (.tup [te.zero, .one (.bool false)]) := by
  have := Q_lookup (G := G) (dst := dst) (ty := ty) (pos := pos) (after := after) (gd := gd) hT K (c := true) (vc := vc) (M := M) (k := k) (r := te.zero) hm hl hx ht hk he (by rw [hg])
  rw [hg] at this
  exact this
theorem indexN_ok (hL : LetsOk lets) (n : Nat) (hn : n ≤ lets.length) (s : Str) : ACalls Tryz.prog 39 [.one (.sl ((lets.map encL).take n)), .one (.fn 67 [.ptr [.str s]])] (.pv (cI (fidx (nameEq s) (lets.take n)))) := by
  rw [take_map]
  exact indexL_ok (lets.take n) 67 [.ptr [.str s]] (nameEq s) (by rw [List.length_take]; have := hL.1; omega) (fun x _ => name1_ok x s)
theorem name_none (hL : LetsOk lets) (n : Nat) (hn : n ≤ lets.length) (s : Str) (h : (lets.take n).any (nameEq s) = false) : VCalls lets en 44 [cS s, cI n] (.err 14) := by
  have h1 := indexN_ok hL n hn s
  rw [fidx_miss h] at h1
  have hlen := hL.1
  refine PCalls.of_M TYok (z := 4) (qs := [zF0, cI 14]) [.cell 6 40, .tmp 7] 59 Tryz.func44 (by kernel_rfl) rfl rfl rfl fun G b rows hI => ?_
  simp only [St.initP, initEnv, Nat.reduceAdd, List.cons_append, List.nil_append]
  repeat' (first | (refine W.weaken (Le.freeze1 (m := 4) rfl) ?_) | ((first | apply U_ | apply Lex.u | (apply Lex.g; exact rfl; exact rfl) | (apply Lex.gq; exact rfl; exact rfl)); (first | exact QX.B TYok | exact QX.Nil TYok | exact QX.Idx TYok | exact QX.Ext TYok | exact QX.Build TYok | exact QX.Fun TYok | exact QX.Cut TYok | exact QCd (h1)); exact rfl) | refine SX.Alloc TYok (h := ?_) | refine SX.Store TYok (h := ?_) | refine SX.Box TYok (h := ?_) | refine SC ?_ | (apply S_isnil TYok; exact rfl; exact rfl; exact rfl; exact Ev.auto; intro bn hnil) | (apply W.draw2 (id := 9) [0, 1, 3, 7, 0, 0, 63] [[0], [51], [52], [53], [8], [11]] 6 [(51, 1), (52, 2251799813685248), (53, 4503599627370496), (54, 9007199254740992), (55, 256), (56, 2048)] mixed (by kernel_rfl) rfl rfl) | (refine W.condA (ht := fun hb => ?_) (hf := fun hb => ?_) <;> (try simp at hb) <;> (try (exfalso; omega))))
  all_goals exact FinP.ret 1000000 rfl hI rfl (ResM.cell rfl rfl rfl rfl zeroSubF (ResM.tmp rfl rfl PSub.rfl' ResM.nil))
theorem hit_ix {n i : Nat} {s : Str} (hn : n ≤ lets.length) (h : (lets.take n).any (nameEq s) = true) (hi : (lets.take n).findIdx (nameEq s) = i) : i < n := by
  have := List.findIdx_lt_length_of_exists (List.any_eq_true.1 h)
  rw [List.length_take] at this
  omega
theorem name_hit (hL : LetsOk lets) (n : Nat) (hn : n ≤ lets.length) (s : Str) (i : Nat) (h : (lets.take n).any (nameEq s) = true) (hi : (lets.take n).findIdx (nameEq s) = i)
    (R : Rs) (hR : nth (tabF lets en lets.length) i = R) (hf : R.fit) (hV : VCalls lets en 24 [aE (nth lets i).body, cI i] R) : VCalls lets en 44 [cS s, cI n] R := by
  have h1 := indexN_ok hL n hn s
  rw [fidx, if_pos h, hi] at h1
  have hlen := hL.1
  have hin := hit_ix hn h hi
  cases R with
  | err e =>
    have he : e ≠ 0 := hf
    replace hV : PCalls Tryz.prog 24 4 (fun b => [.one (.ptr (cellsR lets en b)), aE (nth lets i).body, cI i]) (.tup [zF0, cI e]) (InvR lets en) := hV
    show PCalls Tryz.prog 44 4 (fun b => [.one (.ptr (cellsR lets en b)), cS s, cI n]) (.tup [zF0, cI e]) (InvR lets en)
    refine PCalls.of_M TYok (z := 4) (qs := [zF0, cI e]) [.cell 6 40, .tmp 7] 59 Tryz.func44 (by kernel_rfl) rfl rfl rfl fun G b rows hI => ?_
    simp only [St.initP, initEnv, Nat.reduceAdd, List.cons_append, List.nil_append]
    obtain ⟨M, rfl, hM⟩ := hI
    cases hg : mget M (i : Int) with
    | some v => have := (hM _ _ hg).2.2; rw [Int.toNat_natCast, hR] at this; cases this
    | none =>
      repeat' (first | (refine W.weaken (Le.freeze1 (m := 4) rfl) ?_) | ((first | apply U_ | apply Lex.u | (apply Lex.g; exact rfl; exact rfl) | (apply Lex.gq; exact rfl; exact rfl)); (first | (apply Q_lookN TYok KI (vc := encQ) hg; exact Ev.auto; exact rfl; exact Ev.auto; exact rfl; exact rfl; exact rfl) | (apply Q_loadMp TYok (g := 1000000); exact rfl; exact rfl; exact rfl; exact rfl; exact rfl; exact Ev.auto) | exact QX.B TYok | exact QX.Nil TYok | exact QX.Idx TYok | exact QX.Ext TYok | exact QX.Build TYok | exact QX.Fun TYok | exact QX.Cut TYok | exact QCd (h1)); exact rfl) | refine SX.Alloc TYok (h := ?_) | refine SX.Store TYok (h := ?_) | refine SX.Box TYok (h := ?_) | (apply S_callp (hV) (g := 1000000); exact rfl; exact rfl; exact rfl; exact rfl; (first | assumption | exact ⟨_, rfl, by assumption⟩); exact EvD.auto; intro _ hI2) | refine SC ?_ | (apply S_isnil TYok; exact rfl; exact rfl; exact rfl; exact Ev.auto; intro bn hnil) | (apply W.draw2 (id := 9) [0, 1, 3, 7, 0, 0, 63] [[0], [51], [52], [53], [8], [11]] 6 [(51, 1), (52, 2251799813685248), (53, 4503599627370496), (54, 9007199254740992), (55, 256), (56, 2048)] mixed (by kernel_rfl) rfl rfl) | (refine W.condA (ht := fun hb => ?_) (hf := fun hb => ?_) <;> (try simp at hb) <;> (try (exfalso; omega))))
      all_goals first
        | exact FinP.ret 1000000 rfl hI2 rfl ResM.auto
        | trace_state
  | ok v =>
    have he : okF v := hf
    replace hV : PCalls Tryz.prog 24 4 (fun b => [.one (.ptr (cellsR lets en b)), aE (nth lets i).body, cI i]) (.tup [zF v, cI 0]) (InvR lets en) := hV
    show PCalls Tryz.prog 44 4 (fun b => [.one (.ptr (cellsR lets en b)), cS s, cI n]) (.tup [zF v, cI 0]) (InvR lets en)
    refine PCalls.of_M TYok (z := 4) (qs := [zF v, cI 0]) [.cell 6 40, .tmp 7] 59 Tryz.func44 (by kernel_rfl) rfl rfl rfl fun G b rows hI => ?_
    simp only [St.initP, initEnv, Nat.reduceAdd, List.cons_append, List.nil_append]
    obtain ⟨M, rfl, hM⟩ := hI
    have hput : ∀ M2, InvM lets en M2 → InvR lets en ((mput M2 (i : Int) v).map (mrow kI encQ)) := fun M2 h2 => ⟨_, rfl, fun k w hk => by
      rw [mget_mput] at hk
      split at hk
      · rename_i e
        subst e
        obtain rfl := Option.some.inj hk
        exact ⟨by omega, by omega, by rw [Int.toNat_natCast]; exact hR⟩
      · exact h2 k w hk⟩
    cases hg : mget M (i : Int) with
    | some w =>
      have := (hM _ _ hg).2.2
      rw [Int.toNat_natCast, hR] at this
      obtain rfl : v = w := by cases this; rfl
      repeat' (first | (refine W.weaken (Le.freeze1 (m := 4) rfl) ?_) | ((first | apply U_ | apply Lex.u | (apply Lex.g; exact rfl; exact rfl) | (apply Lex.gq; exact rfl; exact rfl)); (first | (apply Q_lookS TYok KI (vc := encQ) hg; exact Ev.auto; exact rfl; exact Ev.auto; exact rfl; exact rfl; exact rfl) | (apply Q_loadMp TYok (g := 1000000); exact rfl; exact rfl; exact rfl; exact rfl; exact rfl; exact Ev.auto) | exact QX.B TYok | exact QX.Nil TYok | exact QX.Idx TYok | exact QX.Ext TYok | exact QX.Build TYok | exact QX.Fun TYok | exact QX.Cut TYok | exact QCd (h1)); exact rfl) | refine SX.Alloc TYok (h := ?_) | refine SX.Store TYok (h := ?_) | refine SX.Box TYok (h := ?_) | refine SC ?_ | (apply S_isnil TYok; exact rfl; exact rfl; exact rfl; exact Ev.auto; intro bn hnil) | (apply W.draw2 (id := 9) [0, 1, 3, 7, 0, 0, 63] [[0], [51], [52], [53], [8], [11]] 6 [(51, 1), (52, 2251799813685248), (53, 4503599627370496), (54, 9007199254740992), (55, 256), (56, 2048)] mixed (by kernel_rfl) rfl rfl) | (refine W.condA (ht := fun hb => ?_) (hf := fun hb => ?_) <;> (try simp at hb) <;> (try (exfalso; omega))))
      all_goals first
        | exact FinP.ret 1000000 rfl ⟨M, rfl, hM⟩ rfl ResM.auto
        | trace_state
    | none =>
      repeat' (first | (refine W.weaken (Le.freeze1 (m := 4) rfl) ?_) | ((first | apply U_ | apply Lex.u | (apply Lex.g; exact rfl; exact rfl) | (apply Lex.gq; exact rfl; exact rfl)); (first | (apply Q_lookN TYok KI (vc := encQ) hg; exact Ev.auto; exact rfl; exact Ev.auto; exact rfl; exact rfl; exact rfl) | (apply Q_loadMp TYok (g := 1000000); exact rfl; exact rfl; exact rfl; exact rfl; exact rfl; exact Ev.auto) | exact QX.B TYok | exact QX.Nil TYok | exact QX.Idx TYok | exact QX.Ext TYok | exact QX.Build TYok | exact QX.Fun TYok | exact QX.Cut TYok | exact QCd (h1)); exact rfl) | refine SX.Alloc TYok (h := ?_) | refine SX.Store TYok (h := ?_) | refine SX.Box TYok (h := ?_) | (apply S_callp (hV) (g := 1000000); exact rfl; exact rfl; exact rfl; exact rfl; (first | assumption | exact ⟨_, rfl, by assumption⟩); exact EvD.auto; (intro _ hI2; obtain ⟨M2, rfl, hM2⟩ := hI2)) | (apply S_mapUpdate TYok KI (vc := encQ) (v := v); exact Ev.auto; exact rfl; exact Ev.auto; exact Ev.auto; exact rfl; exact rfl; exact rfl) | refine SC ?_ | (apply S_isnil TYok; exact rfl; exact rfl; exact rfl; exact Ev.auto; intro bn hnil) | (apply W.draw2 (id := 9) [0, 1, 3, 7, 0, 0, 63] [[0, 1000000], [51, 1000000], [52, 1000000], [53, 1000000], [8, 1000000], [11, 1000000]] 6 [(51, 1), (52, 2251799813685248), (53, 4503599627370496), (54, 9007199254740992), (55, 256), (56, 2048)] mixed (by kernel_rfl) rfl rfl) | (refine W.condA (ht := fun hb => ?_) (hf := fun hb => ?_) <;> (try simp at hb) <;> (try (exfalso; omega))))
      all_goals first
        | exact FinP.ret 1000000 rfl (hput _ hM2) rfl ResM.auto
        | trace_state
end
end Go.Proofs.YtjedkgogjehigaaGreat
end
