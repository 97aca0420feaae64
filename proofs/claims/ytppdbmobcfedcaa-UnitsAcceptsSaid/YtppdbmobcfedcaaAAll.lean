/-
  UnitsAccepts: the row: what came in is read, the contract of the function gives true, and what came in stands.
-/
import Derived.Test.YtppdbmobcfedcaaAS03
import Derived.ProofKit
import Derived.OpenShut
import Derived.Carry
import Derived.Test.YtppdbmobcfedcaaAS05
import Derived.Test.YtppdbmobcfedcaaAS09
section
set_option linter.unusedVariables false
set_option linter.unusedSimpArgs false
set_option linter.unusedSectionVars false
namespace Lf
open Go Go.RowKit Go.ChangeShapes Go.WideShapes Go.ChangeAt
def allΦ (w : World) : Frz := fun b => match w.heap[b]? with | some (.cells c _ _) => some c | _ => none
theorem fits_all (w : World) : Fits (allΦ w) w := by
  intro b cs h
  unfold allΦ at h
  split at h
  · rename_i c e l he
    obtain rfl := Option.some.inj h
    exact ⟨_, _, he⟩
  · cases h
theorem cell_all {w : World} {a : Addr} {v : Value} (h : w.cell? a = some v) : a.spot = none ∧ (allΦ w a.block).bind (·[a.off]?) = some v := by
  unfold World.cell? at h
  unfold allΦ
  split at h
  · rename_i c e l he
    rw [he]
    split at h
    · cases h
    · rename_i hs
      exact ⟨by simpa using hs, by simpa using h⟩
  · cases h
def TyS (R : Nat → List Cell → Prop) : List (Nat × Nat) → List Cell → Prop
  | [], cl => cl = []
  | (_, ft) :: fs, cl => ∃ a b, cl = a ++ b ∧ R ft a ∧ TyS R fs b
def TyL (T : TT) : Nat → Nat → List Cell → Prop
  | 0, _, _ => False
  | n + 1, t, cl => match (T t).map TI.kind with
    | some (.int k) => ∃ i, cl = [.int k i] ∧ (Lit.int k i).wf = true
    | some .bool => ∃ b, cl = [.bool b]
    | some .string => ∃ s, cl = [.str s] ∧ s.length ≤ maxLen
    | some (.slice e) => ∃ rows, cl = [.sl rows] ∧ rows.length ≤ maxLen ∧ ∀ r ∈ rows, TyL T n e r
    | some (.struct fs) => TyS (TyL T n) fs cl
    | _ => False
def tile (T : TT) : Nat → List (Nat × Nat) → Option Nat
  | o, [] => some o
  | o, (fo, ft) :: fs => bif Nat.beq fo o then (T ft).bind fun ti => tile T (o + ti.sz) fs else none
theorem pick_rows {α : Type} {p : Nat → α → Prop} : ∀ {n : Nat}, (∀ i, i < n → ∃ r, p i r) → ∃ rows : List α, rows.length = n ∧ ∀ i r, rows[i]? = some r → p i r
  | 0, _ => ⟨[], rfl, fun i r h => by simp at h⟩
  | n + 1, h => by
    obtain ⟨rows, h1, h2⟩ := pick_rows (n := n) fun i hi => h i (by omega)
    obtain ⟨r, hr⟩ := h n (by omega)
    refine ⟨rows ++ [r], by simp [h1], fun i s hs => ?_⟩
    rw [List.getElem?_append] at hs
    split at hs
    · exact h2 i s hs
    · rename_i hi
      by_cases he : i = n
      · subst he
        simp [h1] at hs
        exact hs ▸ hr
      · rw [List.getElem?_eq_none (by simp; omega)] at hs
        cases hs
section
variable {P : Program} {T : TT} (hT : TOK P T)
include hT
theorem cellsOf_ti {t : Nat} {ti : TI} (h : T t = some ti) : P.cellsOf t = ti.sz := by
  obtain ⟨i, hi, hs, _⟩ := (hT t ti h).info
  simp [Program.cellsOf, hi, hs]
end
theorem rows_map {α : Type} {f : α → List Cell} {p : α → Prop} : ∀ {rows : List (List Cell)}, (∀ r ∈ rows, ∃ v, r = f v ∧ p v) → ∃ l : List α, rows = l.map f ∧ ∀ v ∈ l, p v
  | [], _ => ⟨[], rfl, fun v hv => by cases hv⟩
  | r :: rs, h => by
    obtain ⟨v, rfl, hv⟩ := h r (List.mem_cons_self ..)
    obtain ⟨l, rfl, hl⟩ := rows_map fun s hs => h s (List.mem_cons_of_mem _ hs)
    exact ⟨v :: l, rfl, fun u hu => by cases hu with | head => exact hv | tail _ hm => exact hl u hm⟩
/-- arguments, one after the other -/
def ArgsL (Φ : Frz) : List Value → List PV → Prop
  | [], [] => True
  | v :: vs, p :: ps => PRel Φ v p ∧ ArgsL Φ vs ps
  | _, _ => False
theorem ArgsL.rel {Φ : Frz} : ∀ {vs : List Value} {ps : List PV}, ArgsL Φ vs ps → vs.length = ps.length ∧ ∀ (j : Nat) (p : PV), ps[j]? = some p → ∃ v, vs[j]? = some v ∧ PRel Φ v p
  | [], [], _ => ⟨rfl, fun j p h => by simp at h⟩
  | v :: vs, p :: ps, h => by
    obtain ⟨h1, h2⟩ := ArgsL.rel h.2
    refine ⟨by simp [h1], fun j q hq => ?_⟩
    cases j with
    | zero => simp at hq; exact ⟨v, rfl, hq ▸ h.1⟩
    | succ j => simpa using h2 j q (by simpa using hq)
theorem ArgsRel.of {Φ : Frz} {vs : List Value} {ps : List PV} (h : ArgsL Φ vs ps) : ArgsRel Φ vs.toArray ps := ⟨by simpa using h.rel.1, fun j p hp => by simpa using h.rel.2 j p hp⟩
theorem ArgsL.nil {Φ : Frz} : ArgsL Φ [] [] := trivial
theorem ArgsL.cons {Φ : Frz} {v : Value} {vs : List Value} {p : PV} {ps : List PV} (h : PRel Φ v p) (hs : ArgsL Φ vs ps) : ArgsL Φ (v :: vs) (p :: ps) := ⟨h, hs⟩
end Lf
end
section
set_option linter.unusedVariables false
set_option linter.unusedSimpArgs false
set_option linter.unusedSectionVars false
namespace Lf
open Go Go.RowKit Go.ChangeShapes Go.WideShapes Go.ChangeAt
def okK (T : TT) (R : Nat → Bool) (ti : TI) : Bool := match ti.kind with
  | .int _ | .bool | .string => Nat.beq ti.sz 1
  | .slice e => Nat.beq ti.sz 1 && R e && (match T e with | some te => Nat.blt 0 te.sz | none => false)
  | .struct fs => (match tile T 0 fs with | some s => Nat.beq s ti.sz | none => false) && fs.all fun f => R f.2
  | _ => false
def supR (T : TT) : Nat → Nat → Bool
  | 0, _ => true
  | n + 1, t => match T t with
    | some ti => okK T (supR T n) ti
    | none => false
def closedB (T : TT) (S : List Nat) : Bool := S.all fun t => match T t with | some ti => okK T (fun e => S.contains e) ti | none => false
theorem okK_mono {T : TT} {R R' : Nat → Bool} {ti : TI} (h : ∀ e, R e = true → R' e = true) (hk : okK T R ti = true) : okK T R' ti = true := by
  unfold okK at hk ⊢
  split at hk
  · exact hk
  · exact hk
  · exact hk
  · simp only [Bool.and_eq_true] at hk ⊢
    exact ⟨⟨hk.1.1, h _ hk.1.2⟩, hk.2⟩
  · simp only [Bool.and_eq_true, List.all_eq_true] at hk ⊢
    exact ⟨hk.1, fun f hf => h _ (hk.2 f hf)⟩
  · cases hk
theorem supR_closed {T : TT} {S : List Nat} (h : closedB T S = true) : ∀ (n t : Nat), t ∈ S → supR T n t = true
  | 0, _, _ => rfl
  | n + 1, t, ht => by
    have h1 := List.all_eq_true.1 h t ht
    rw [supR]
    cases hti : T t with
    | none => rw [hti] at h1; cases h1
    | some ti =>
      rw [hti] at h1
      exact okK_mono (fun e he => supR_closed h n e (by simpa using he)) h1
section
variable {P : Program} {T : TT} (hT : TOK P T)
include hT
theorem readR {H : Type} {enc : TypeId × Value → H} {w : World} {base : Nat} {spare : Nat → Bool} {held : Bool} : ∀ (n t fuel : Nat) (cs : List Value) (x : DataW H × List MemPlace), fuel ≤ n → supR T n t = true → DataW.trod enc P w base spare held fuel t cs = some x →
    ∃ cl, RelL (allΦ w) cs cl ∧ TyL T n t cl ∧ ∀ ti, T t = some ti → cl.length = ti.sz := by
  intro n
  induction n with
  | zero =>
    intro t fuel cs x hf hs h
    obtain rfl : fuel = 0 := by omega
    simp [DataW.trod] at h
  | succ n ih =>
    intro t fuel cs x hf hs h
    cases hti : T t with
    | none => simp [supR, hti] at hs
    | some ti =>
      have hk := (hT t ti hti).kind
      have hz := cellsOf_ti hT hti
      simp only [supR, hti, okK] at hs
      simp only [TyL, hti, Option.map_some]
      cases hkd : ti.kind with
      | int k =>
        rw [hkd] at hk hs
        obtain ⟨i, rfl, hx, hw⟩ := DataW.trod_int hk h
        exact ⟨[.int k i], ⟨.int k i, trivial⟩, ⟨i, rfl, hw⟩, fun tj hj => by obtain rfl := Option.some.inj hj; simpa using (Nat.eq_of_beq_eq_true hs).symm⟩
      | bool =>
        rw [hkd] at hk hs
        obtain ⟨b, rfl, hx⟩ := DataW.trod_bool hk h
        exact ⟨[.bool b], ⟨.bool b, trivial⟩, ⟨b, rfl⟩, fun tj hj => by obtain rfl := Option.some.inj hj; simpa using (Nat.eq_of_beq_eq_true hs).symm⟩
      | string =>
        rw [hkd] at hk hs
        obtain ⟨s, rfl, hx, hw⟩ := DataW.trod_string hk h
        refine ⟨[.str s.data.toList], ⟨.str s, trivial⟩, ⟨_, rfl, ?_⟩, fun tj hj => by obtain rfl := Option.some.inj hj; simpa using (Nat.eq_of_beq_eq_true hs).symm⟩
        rw [Array.length_toList]; exact hw
      | slice e =>
        rw [hkd] at hk hs
        simp only [Bool.and_eq_true] at hs
        obtain ⟨⟨hs1, hs2⟩, hs3⟩ := hs
        cases hte : T e with
        | none => rw [hte] at hs3; cases hs3
        | some te =>
          rw [hte] at hs3
          have hpos := blt_lt hs3
          have hze := cellsOf_ti hT hte
          have hlen1 : ∀ tj, some ti = some tj → 1 = tj.sz := fun tj hj => by obtain rfl := Option.some.inj hj; exact (Nat.eq_of_beq_eq_true hs1).symm
          rcases DataW.trod_slice hk h with ⟨rfl, hx⟩ | ⟨a, len, cap, elems, rest, m, rfl, rfl, hx, hb, hl, hm, hel, hget, _, _⟩
          · exact ⟨[.sl []], ⟨.sl0, trivial⟩, ⟨[], rfl, Nat.zero_le _, fun r hr => by cases hr⟩, hlen1⟩
          · have each : ∀ i, i < len → ∃ cl : List Cell, ∃ ci, w.cells? base (a.add (i * P.cellsOf e)) (P.cellsOf e) = some ci ∧ RelL (allΦ w) ci cl ∧ TyL T n e cl ∧ cl.length = te.sz := by
              intro i hi
              have h1 := hget i hi
              rw [List.getElem?_eq_getElem (by omega)] at h1
              cases hc : w.cells? base (a.add (i * P.cellsOf e)) (P.cellsOf e) with
              | none => rw [hc] at h1; cases h1
              | some ci =>
                rw [hc] at h1
                obtain ⟨cl, g1, g2, g3⟩ := ih e m ci _ (by omega) hs2 h1
                exact ⟨cl, ci, rfl, g1, g2, g3 te hte⟩
            obtain ⟨rows, hr1, hr2⟩ := pick_rows each
            refine ⟨[.sl rows], ⟨?_, trivial⟩, ⟨rows, rfl, by omega, fun r hr => ?_⟩, hlen1⟩
            · by_cases h0 : len = 0
              · subst h0
                obtain rfl : rows = [] := List.eq_nil_of_length_eq_zero hr1
                exact .slE a cap
              · obtain ⟨b, off, spot⟩ := a
                have cellat : ∀ i j r c, rows[i]? = some r → r[j]? = some c → ∃ v, w.cell? (Addr.add (Addr.add ⟨b, off, spot⟩ (i * te.sz)) j) = some v ∧ Rel (allΦ w) v c := by
                  intro i j r c h1 h2
                  obtain ⟨ci, g1, g2, g3, g4⟩ := hr2 i r h1
                  obtain ⟨v, hv1, hv2⟩ := g2.get h2
                  rw [hze] at g1
                  have hj : j < te.sz := by have := (List.getElem?_eq_some_iff.1 h2).1; omega
                  have := World.cells?_some g1
                  refine ⟨v, ?_, hv2⟩
                  rw [← hv1]
                  exact this.2.2 j hj
                have hrow0 : ∃ r, rows[0]? = some r := ⟨rows[0]'(by omega), List.getElem?_eq_getElem (by omega)⟩
                obtain ⟨r0, hr0⟩ := hrow0
                obtain ⟨_, _, _, _, hl0⟩ := hr2 0 r0 hr0
                obtain ⟨v0, hv0, _⟩ := cellat 0 0 r0 _ hr0 (List.getElem?_eq_getElem (show 0 < r0.length by omega))
                have hz0 : Addr.add (Addr.add ⟨b, off, spot⟩ (0 * te.sz)) 0 = ⟨b, off, spot⟩ := by simp [Addr.add]
                rw [hz0] at hv0
                have hsp : spot = none := (cell_all hv0).1
                subst hsp
                refine .sl b off len cap te.sz rows (fun i j => ((allΦ w b).bind (·[off + (i * te.sz + j)]?)).getD .nilFunc) hr1 hl (fun r hr => ?_) (fun i j r c h1 h2 => ?_) (fun i j r c h1 h2 => ?_)
                · obtain ⟨i, hi⟩ := List.getElem?_of_mem hr
                  obtain ⟨_, _, _, _, g⟩ := hr2 i r hi
                  exact g
                · obtain ⟨v, hv, _⟩ := cellat i j r c h1 h2
                  have := (cell_all hv).2
                  simp only [Addr.add_lit] at this
                  rw [show off + (i * te.sz + j) = off + i * te.sz + j by omega, this]; rfl
                · obtain ⟨v, hv, hv2⟩ := cellat i j r c h1 h2
                  have := (cell_all hv).2
                  simp only [Addr.add_lit] at this
                  rw [show off + (i * te.sz + j) = off + i * te.sz + j by omega, this]; exact hv2
            · obtain ⟨i, hi⟩ := List.getElem?_of_mem hr
              obtain ⟨_, _, _, g, _⟩ := hr2 i r hi
              exact g
      | struct fs =>
        rw [hkd] at hk hs
        obtain ⟨fields, hu, hfs⟩ := hk
        simp only [Bool.and_eq_true] at hs
        obtain ⟨hs1, hs2⟩ := hs
        cases htl : tile T 0 fs with
        | none => rw [htl] at hs1; cases hs1
        | some tot =>
          rw [htl] at hs1
          have htot := Nat.eq_of_beq_eq_true hs1
          obtain ⟨xs, m, rfl, hx, hlen, hxl, hget⟩ := DataW.trod_struct hu h
          have hall : ∀ f ∈ fs, ∃ y, DataW.trod enc P w base spare held m f.2 ((cs.drop f.1).take (P.cellsOf f.2)) = some y := by
            intro f hf
            rw [← hfs] at hf
            obtain ⟨g, hg, rfl⟩ := List.mem_map.1 hf
            obtain ⟨i, hi⟩ := List.getElem?_of_mem hg
            have hi' : fields[i]? = some g := by rw [← hi]; simp
            have hlt : i < xs.length := by rw [hxl]; exact (Array.getElem?_eq_some_iff.1 hi').1
            exact ⟨xs[i], by rw [hget i g hi', List.getElem?_eq_getElem hlt]⟩
          have main : ∀ (gs : List (Nat × Nat)) (o : Nat), (∀ f ∈ gs, ∃ y, DataW.trod enc P w base spare held m f.2 ((cs.drop f.1).take (P.cellsOf f.2)) = some y) → gs.all (fun f => supR T n f.2) = true → tile T o gs = some tot → cs.length = tot →
              ∃ cl, RelL (allΦ w) (cs.drop o) cl ∧ TyS (TyL T n) gs cl ∧ o + cl.length = tot := by
            intro gs
            induction gs with
            | nil =>
              intro o _ _ h1 h2
              simp only [tile, Option.some.injEq] at h1
              refine ⟨[], ?_, rfl, by simp [h1]⟩
              rw [List.drop_eq_nil_of_le (by omega)]
              trivial
            | cons f gs ihs =>
              intro o hall' hsup h1 h2
              obtain ⟨fo, ft⟩ := f
              rw [tile] at h1
              cases hbe : Nat.beq fo o with
              | false => rw [hbe] at h1; cases h1
              | true =>
                have := Nat.eq_of_beq_eq_true hbe
                subst this
                rw [hbe, cond_true] at h1
                cases htf : T ft with
                | none => rw [htf] at h1; cases h1
                | some tf =>
                  rw [htf] at h1
                  simp only [Option.bind_some] at h1
                  simp only [List.all_cons, Bool.and_eq_true] at hsup
                  obtain ⟨y, hy⟩ := hall' _ (List.mem_cons_self ..)
                  obtain ⟨c1, a1, a2, a3⟩ := ih ft m _ y (by omega) hsup.1 hy
                  obtain ⟨c2, b1, b2, b3⟩ := ihs (fo + tf.sz) (fun g hg => hall' g (List.mem_cons_of_mem _ hg)) hsup.2 h1 h2
                  have hl1 := a3 tf htf
                  refine ⟨c1 ++ c2, ?_, ⟨c1, c2, rfl, a2, b2⟩, by simp; omega⟩
                  have e : cs.drop fo = (cs.drop fo).take tf.sz ++ cs.drop (fo + tf.sz) := by
                    rw [← List.drop_drop, List.take_append_drop]
                  rw [e]
                  rw [cellsOf_ti hT htf] at a1
                  exact a1.append b1
          obtain ⟨cl, c1, c2, c3⟩ := main fs 0 hall hs2 htl (by rw [hlen, hz, htot])
          refine ⟨cl, by simpa using c1, c2, fun tj hj => ?_⟩
          obtain rfl := Option.some.inj hj
          omega
      | array k e => rw [hkd] at hs; cases hs
      | ptr e => rw [hkd] at hs; cases hs
      | map k e => rw [hkd] at hs; cases hs
      | func => rw [hkd] at hs; cases hs
      | iface => rw [hkd] at hs; cases hs
      | other => rw [hkd] at hs; cases hs
/-- A struct that came in. -/
theorem readR_struct {H : Type} {enc : TypeId × Value → H} {w : World} {base b0 : Nat} {spare : Nat → Bool} {held : Bool} {r : Reach} {t : Nat} {fs : Array Field} {v : Value} {d : DataW H} {ps : List MemPlace} {S : List Nat} (hS : closedB T S = true) (hm : t ∈ S) (hu : P.underlying t = some (.struct fs))
    (hval : Value.okWide P w r b0 t v) (hd : DataW.Trod enc P w base spare held t v d ps) : ∃ n cs, PRel (allΦ w) v (.agg cs) ∧ TyL T n t cs := by
  obtain ⟨arr, rfl, _⟩ := okWide_struct hu hval
  obtain ⟨fuel, hf⟩ := hd
  obtain ⟨cl, h1, h2, _⟩ := readR hT fuel t fuel _ _ (Nat.le_refl _) (supR_closed hS _ _ hm) hf
  exact ⟨_, cl, ⟨arr, rfl, h1⟩, h2⟩
end
end Lf
end
section
set_option linter.unusedVariables false
set_option linter.unusedSimpArgs false
set_option maxHeartbeats 8000000
set_option linter.unusedSectionVars false
namespace Go.Proofs.Ytppdbmobcfedcaa
open Lf Go
attribute [local irreducible] PureOp EffOp Ev RG W Then InBlock Lf.Fin nth App InitE Pick SubE EvL EvD EvP EvR ResL Lf.Lex SubR SubBR RA RAll EvC FinO FinM ResM
section
theorem exp_of : ∀ (n : Nat) {cs : List Cell}, TyL TY n 25 cs → ∃ e : Exp, cs = encX e ∧ OkE e
  | 0, cs, h => h.elim
  | 1, cs, h => by
    obtain ⟨a1, b1, rfl, t1, -⟩ : ∃ a1 b1, cs = a1 ++ b1 ∧ TyL TY 0 3 a1 ∧ True := by
      obtain ⟨a1, b1, h1, h2, _⟩ := h; exact ⟨a1, b1, h1, h2, trivial⟩
    exact t1.elim
  | n + 2, cs, h => by
    obtain ⟨a1, b1, rfl, t1, a2, b2, rfl, t2, a3, b3, rfl, t3, a4, b4, rfl, t4, a5, b5, rfl, t5, rfl⟩ : ∃ a1 b1, cs = a1 ++ b1 ∧ TyL TY (n + 1) 3 a1 ∧ ∃ a2 b2, b1 = a2 ++ b2 ∧ TyL TY (n + 1) 3 a2 ∧ ∃ a3 b3, b2 = a3 ++ b3 ∧ TyL TY (n + 1) 3 a3 ∧ ∃ a4 b4, b3 = a4 ++ b4 ∧ TyL TY (n + 1) 9 a4 ∧ ∃ a5 b5, b4 = a5 ++ b5 ∧ TyL TY (n + 1) 23 a5 ∧ b5 = [] := h
    obtain ⟨i1, rfl, _⟩ : ∃ i, a1 = [.int .i64 i] ∧ (Lit.int .i64 i).wf = true := t1
    obtain ⟨i2, rfl, _⟩ : ∃ i, a2 = [.int .i64 i] ∧ (Lit.int .i64 i).wf = true := t2
    obtain ⟨i3, rfl, _⟩ : ∃ i, a3 = [.int .i64 i] ∧ (Lit.int .i64 i).wf = true := t3
    obtain ⟨s, rfl, hs⟩ : ∃ s, a4 = [.str s] ∧ s.length ≤ maxLen := t4
    obtain ⟨rows, rfl, hl, hr⟩ : ∃ rows, a5 = [Cell.sl rows] ∧ rows.length ≤ maxLen ∧ ∀ r ∈ rows, TyL TY n 25 r := t5
    obtain ⟨l, rfl, ho⟩ := rows_map (f := encX) (p := OkE) fun r hr' => exp_of n (hr r hr')
    refine ⟨.mk i1 i2 i3 s l, ?_, .mk (by unfold maxLen at hs; omega) (by simp only [List.length_map] at hl; unfold maxLen at hl; omega) ho⟩
    have := aE_mk i1 i2 i3 s l
    injection this with this
    exact this.symm
theorem let_of : ∀ (n : Nat) {cs : List Cell}, TyL TY n 44 cs → ∃ x : Let, cs = encL x ∧ x.name.length ≤ 9223372036854775807 ∧ OkE x.body
  | 0, cs, h => h.elim
  | 1, cs, h => by
    obtain ⟨a1, b1, rfl, t1, -⟩ : ∃ a1 b1, cs = a1 ++ b1 ∧ TyL TY 0 9 a1 ∧ True := by
      obtain ⟨a1, b1, h1, h2, _⟩ := h; exact ⟨a1, b1, h1, h2, trivial⟩
    exact t1.elim
  | n + 2, cs, h => by
    obtain ⟨a1, b1, rfl, t1, a2, b2, rfl, t2, rfl⟩ : ∃ a1 b1, cs = a1 ++ b1 ∧ TyL TY (n + 1) 9 a1 ∧ ∃ a2 b2, b1 = a2 ++ b2 ∧ TyL TY (n + 1) 25 a2 ∧ b2 = [] := h
    obtain ⟨s, rfl, hs⟩ : ∃ s, a1 = [.str s] ∧ s.length ≤ maxLen := t1
    obtain ⟨e, rfl, he⟩ := exp_of _ t2
    exact ⟨⟨s, e⟩, rfl, by unfold maxLen at hs; show s.length ≤ _; omega, he⟩
theorem cov_of : ∀ (n : Nat) {cs : List Cell}, TyL TY n 46 cs → ∃ x : Cov, cs = encV x ∧ x.name.length ≤ 9223372036854775807 ∧ OkE x.must
  | 0, cs, h => h.elim
  | 1, cs, h => by
    obtain ⟨a1, b1, rfl, t1, -⟩ : ∃ a1 b1, cs = a1 ++ b1 ∧ TyL TY 0 9 a1 ∧ True := by
      obtain ⟨a1, b1, h1, h2, _⟩ := h; exact ⟨a1, b1, h1, h2, trivial⟩
    exact t1.elim
  | n + 2, cs, h => by
    obtain ⟨a1, b1, rfl, t1, a2, b2, rfl, t2, a3, b3, rfl, t3, rfl⟩ : ∃ a1 b1, cs = a1 ++ b1 ∧ TyL TY (n + 1) 9 a1 ∧ ∃ a2 b2, b1 = a2 ++ b2 ∧ TyL TY (n + 1) 25 a2 ∧ ∃ a3 b3, b2 = a3 ++ b3 ∧ TyL TY (n + 1) 3 a3 ∧ b3 = [] := h
    obtain ⟨s, rfl, hs⟩ : ∃ s, a1 = [.str s] ∧ s.length ≤ maxLen := t1
    obtain ⟨e, rfl, he⟩ := exp_of _ t2
    obtain ⟨g, rfl, _⟩ : ∃ i, a3 = [.int .i64 i] ∧ (Lit.int .i64 i).wf = true := t3
    exact ⟨⟨s, e, g⟩, rfl, by unfold maxLen at hs; show s.length ≤ _; omega, he⟩
theorem cl_of : ∀ (n : Nat) {cs : List Cell}, TyL TY n 74 cs → ∃ x : Cl, cs = encC x ∧ True
  | 0, cs, h => h.elim
  | 1, cs, h => by
    obtain ⟨a1, b1, rfl, t1, -⟩ : ∃ a1 b1, cs = a1 ++ b1 ∧ TyL TY 0 3 a1 ∧ True := by
      obtain ⟨a1, b1, h1, h2, _⟩ := h; exact ⟨a1, b1, h1, h2, trivial⟩
    exact t1.elim
  | n + 2, cs, h => by
    obtain ⟨a1, b1, rfl, t1, a2, b2, rfl, t2, rfl⟩ : ∃ a1 b1, cs = a1 ++ b1 ∧ TyL TY (n + 1) 3 a1 ∧ ∃ a2 b2, b1 = a2 ++ b2 ∧ TyL TY (n + 1) 3 a2 ∧ b2 = [] := h
    obtain ⟨d, rfl, _⟩ : ∃ i, a1 = [.int .i64 i] ∧ (Lit.int .i64 i).wf = true := t1
    obtain ⟨p, rfl, _⟩ : ∃ i, a2 = [.int .i64 i] ∧ (Lit.int .i64 i).wf = true := t2
    exact ⟨⟨d, p⟩, rfl, trivial⟩
theorem str_of : ∀ (n : Nat) {cs : List Cell}, TyL TY n 9 cs → ∃ x : Str, cs = encS x ∧ x.length ≤ 9223372036854775807
  | 0, cs, h => h.elim
  | n + 1, cs, h => by
    obtain ⟨s, rfl, hs⟩ : ∃ s, cs = [.str s] ∧ s.length ≤ maxLen := h
    exact ⟨s, rfl, by unfold maxLen at hs; omega⟩
theorem ind_of : ∀ (n : Nat) {cs : List Cell}, TyL TY n 30 cs → ∃ x : Ind, cs = encN x ∧ OkN x
  | 0, cs, h => h.elim
  | 1, cs, h => by
    obtain ⟨a1, b1, rfl, t1, -⟩ : ∃ a1 b1, cs = a1 ++ b1 ∧ TyL TY 0 9 a1 ∧ True := by
      obtain ⟨a1, b1, h1, h2, _⟩ := h; exact ⟨a1, b1, h1, h2, trivial⟩
    exact t1.elim
  | n + 2, cs, h => by
    obtain ⟨a1, b1, rfl, t1, a2, b2, rfl, t2, a3, b3, rfl, t3, a4, b4, rfl, t4, a5, b5, rfl, t5, a6, b6, rfl, t6, a7, b7, rfl, t7, a8, b8, rfl, t8, a9, b9, rfl, t9, a10, b10, rfl, t10, a11, b11, rfl, t11, a12, b12, rfl, t12, a13, b13, rfl, t13, a14, b14, rfl, t14, a15, b15, rfl, t15, a16, b16, rfl, t16, a17, b17, rfl, t17, a18, b18, rfl, t18, a19, b19, rfl, t19, a20, b20, rfl, t20, a21, b21, rfl, t21, rfl⟩ : ∃ a1 b1, cs = a1 ++ b1 ∧ TyL TY (n + 1) 9 a1 ∧ ∃ a2 b2, b1 = a2 ++ b2 ∧ TyL TY (n + 1) 9 a2 ∧ ∃ a3 b3, b2 = a3 ++ b3 ∧ TyL TY (n + 1) 3 a3 ∧ ∃ a4 b4, b3 = a4 ++ b4 ∧ TyL TY (n + 1) 3 a4 ∧ ∃ a5 b5, b4 = a5 ++ b5 ∧ TyL TY (n + 1) 3 a5 ∧ ∃ a6 b6, b5 = a6 ++ b6 ∧ TyL TY (n + 1) 3 a6 ∧ ∃ a7 b7, b6 = a7 ++ b7 ∧ TyL TY (n + 1) 3 a7 ∧ ∃ a8 b8, b7 = a8 ++ b8 ∧ TyL TY (n + 1) 3 a8 ∧ ∃ a9 b9, b8 = a9 ++ b9 ∧ TyL TY (n + 1) 3 a9 ∧ ∃ a10 b10, b9 = a10 ++ b10 ∧ TyL TY (n + 1) 3 a10 ∧ ∃ a11 b11, b10 = a11 ++ b11 ∧ TyL TY (n + 1) 22 a11 ∧ ∃ a12 b12, b11 = a12 ++ b12 ∧ TyL TY (n + 1) 25 a12 ∧ ∃ a13 b13, b12 = a13 ++ b13 ∧ TyL TY (n + 1) 3 a13 ∧ ∃ a14 b14, b13 = a14 ++ b14 ∧ TyL TY (n + 1) 26 a14 ∧ ∃ a15 b15, b14 = a15 ++ b15 ∧ TyL TY (n + 1) 27 a15 ∧ ∃ a16 b16, b15 = a16 ++ b16 ∧ TyL TY (n + 1) 3 a16 ∧ ∃ a17 b17, b16 = a17 ++ b17 ∧ TyL TY (n + 1) 28 a17 ∧ ∃ a18 b18, b17 = a18 ++ b18 ∧ TyL TY (n + 1) 3 a18 ∧ ∃ a19 b19, b18 = a19 ++ b19 ∧ TyL TY (n + 1) 3 a19 ∧ ∃ a20 b20, b19 = a20 ++ b20 ∧ TyL TY (n + 1) 3 a20 ∧ ∃ a21 b21, b20 = a21 ++ b21 ∧ TyL TY (n + 1) 3 a21 ∧ b21 = [] := h
    obtain ⟨nm, rfl, hnm⟩ : ∃ s, a1 = [.str s] ∧ s.length ≤ maxLen := t1
    obtain ⟨isr, rfl, hisr⟩ : ∃ s, a2 = [.str s] ∧ s.length ≤ maxLen := t2
    obtain ⟨fa, rfl, _⟩ : ∃ i, a3 = [.int .i64 i] ∧ (Lit.int .i64 i).wf = true := t3
    obtain ⟨st, rfl, _⟩ : ∃ i, a4 = [.int .i64 i] ∧ (Lit.int .i64 i).wf = true := t4
    obtain ⟨du, rfl, _⟩ : ∃ i, a5 = [.int .i64 i] ∧ (Lit.int .i64 i).wf = true := t5
    obtain ⟨ev, rfl, _⟩ : ∃ i, a6 = [.int .i64 i] ∧ (Lit.int .i64 i).wf = true := t6
    obtain ⟨co, rfl, _⟩ : ∃ i, a7 = [.int .i64 i] ∧ (Lit.int .i64 i).wf = true := t7
    obtain ⟨ad, rfl, _⟩ : ∃ i, a8 = [.int .i64 i] ∧ (Lit.int .i64 i).wf = true := t8
    obtain ⟨re, rfl, _⟩ : ∃ i, a9 = [.int .i64 i] ∧ (Lit.int .i64 i).wf = true := t9
    obtain ⟨ra, rfl, _⟩ : ∃ i, a10 = [.int .i64 i] ∧ (Lit.int .i64 i).wf = true := t10
    obtain ⟨rls, rfl, lls, qls⟩ : ∃ rows, a11 = [Cell.sl rows] ∧ rows.length ≤ maxLen ∧ ∀ r ∈ rows, TyL TY n 44 r := t11
    obtain ⟨ls, rfl, ols⟩ := rows_map (f := encL) (p := fun x : Let => x.name.length ≤ 9223372036854775807 ∧ OkE x.body) fun r hr => let_of n (qls r hr)
    have mls : ls.length ≤ 9223372036854775807 := by simp only [List.length_map] at lls; unfold maxLen at lls; omega
    obtain ⟨cp, rfl, hcp⟩ := exp_of _ t12
    obtain ⟨ca, rfl, _⟩ : ∃ i, a13 = [.int .i64 i] ∧ (Lit.int .i64 i).wf = true := t13
    obtain ⟨rvs, rfl, lvs, qvs⟩ : ∃ rows, a14 = [Cell.sl rows] ∧ rows.length ≤ maxLen ∧ ∀ r ∈ rows, TyL TY n 46 r := t14
    obtain ⟨vs, rfl, ovs⟩ := rows_map (f := encV) (p := fun x : Cov => x.name.length ≤ 9223372036854775807 ∧ OkE x.must) fun r hr => cov_of n (qvs r hr)
    have mvs : vs.length ≤ 9223372036854775807 := by simp only [List.length_map] at lvs; unfold maxLen at lvs; omega
    obtain ⟨rfv, rfl, lfv, qfv⟩ : ∃ rows, a15 = [Cell.sl rows] ∧ rows.length ≤ maxLen ∧ ∀ r ∈ rows, TyL TY n 9 r := t15
    obtain ⟨fv, rfl, ofv⟩ := rows_map (f := encS) (p := fun x : Str => x.length ≤ 9223372036854775807) fun r hr => str_of n (qfv r hr)
    have mfv : fv.length ≤ 9223372036854775807 := by simp only [List.length_map] at lfv; unfold maxLen at lfv; omega
    obtain ⟨cr, rfl, _⟩ : ∃ i, a16 = [.int .i64 i] ∧ (Lit.int .i64 i).wf = true := t16
    obtain ⟨rcl, rfl, lcl, qcl⟩ : ∃ rows, a17 = [Cell.sl rows] ∧ rows.length ≤ maxLen ∧ ∀ r ∈ rows, TyL TY n 74 r := t17
    obtain ⟨cl, rfl, ocl⟩ := rows_map (f := encC) (p := fun x : Cl => True) fun r hr => cl_of n (qcl r hr)
    have mcl : cl.length ≤ 9223372036854775807 := by simp only [List.length_map] at lcl; unfold maxLen at lcl; omega
    obtain ⟨no, rfl, _⟩ : ∃ i, a18 = [.int .i64 i] ∧ (Lit.int .i64 i).wf = true := t18
    obtain ⟨si, rfl, _⟩ : ∃ i, a19 = [.int .i64 i] ∧ (Lit.int .i64 i).wf = true := t19
    obtain ⟨ma, rfl, _⟩ : ∃ i, a20 = [.int .i64 i] ∧ (Lit.int .i64 i).wf = true := t20
    obtain ⟨fs, rfl, _⟩ : ∃ i, a21 = [.int .i64 i] ∧ (Lit.int .i64 i).wf = true := t21
    refine ⟨⟨nm, isr, fa, st, du, ev, co, ad, re, ra, ls, cp, ca, vs, fv, cr, cl, no, si, ma, fs⟩, rfl, ⟨?_, ?_, mls, fun y hy => (ols y hy).1, fun y hy => (ols y hy).2, hcp, mvs, fun y hy => (ovs y hy).1, fun y hy => (ovs y hy).2, mfv, ofv, mcl⟩⟩
    · unfold maxLen at hnm; show nm.length ≤ _; omega
    · unfold maxLen at hisr; show isr.length ≤ _; omega
end
end Go.Proofs.Ytppdbmobcfedcaa
end
section
namespace Go.Proofs.Ytppdbmobcfedcaa
open Lf Go Go.ChangeShapes Go.WideShapes Go.ChangeAt Go.RowKit
namespace AcceptsRow
theorem own : ownKnob Try.prog.godebug = none := by kernel_rfl
theorem laidOut : laidOutB Try.prog = true := by kernel_rfl
set_option maxRecDepth 100000 in
theorem lifted (os : Os) (started : os.Started) (H : Type) (enc : TypeId × Value → H) :
    ReturnsInHanded {} Try.checked os 5 .any (Rows.unitsAcceptsSpec.pre6 enc Try.prog Try.f5 Rows.unitsAcceptsRow.domain false) (Rows.unitsAcceptsSpec.post enc Try.prog Try.f5 false true false false) := by
  refine returnsInHanded_of_change (C := Try.checked) own started (by kernel_rfl) Try.func5
    (ChangeSpec.witness6 (enc := enc) (C := Try.checked) false ⟨#[], #[.agg #[.string ⟨#[]⟩, .string ⟨#[]⟩, .int .i64 0, .int .i64 0, .int .i64 0, .int .i64 0, .int .i64 0, .int .i64 0, .int .i64 0, .int .i64 0, .slice none 0 0, .int .i64 0, .int .i64 0, .int .i64 0, .string ⟨#[]⟩, .slice none 0 0, .int .i64 0, .slice none 0 0, .slice none 0 0, .int .i64 0, .slice none 0 0, .int .i64 0, .int .i64 0, .int .i64 0, .int .i64 0], .int .u8 0], []⟩ 8 (by kernel_rfl) (by kernel_rfl) (by kernel_rfl) (by kernel_rfl)) ?_
  intro W base args ds gs before hval0 hW hcnd _
  have hval : ∀ (j : Nat) t v, Try.f5.params[j]? = some t → args[j]? = some v → Value.okWide Try.prog W .any base t v := hval0
  have hW' := hW
  obtain ⟨p, q, hA0, hV, rfl, hfz, hnd⟩ := hW
  have hA : DataW.TrodAll enc Try.prog W 0 (fun _ => true) true Try.f5.params.toList args.toList ds p := hA0
  rw [Try.params5] at hA hval
  obtain ⟨v0, vs0, d0, ds0, p0, q0, hargs, rfl, rfl, h0, r0⟩ := trodAll_cons hA
  obtain ⟨v1, vs1, d1, ds1, p1, q1, rfl, rfl, rfl, h1, r1⟩ := trodAll_cons r0
  obtain ⟨rfl, rfl, rfl⟩ := trodAll_nil r1
  obtain rfl : args = #[v0, v1] := by cases args; simp_all
  obtain ⟨rfl, rfl⟩ := trodVars_none hV
  have k0 := h0
  have lt0 : ∀ x ∈ p0, x.block < W.heap.size := by obtain ⟨m, hm⟩ := k0; exact DataW.trod_lt m _ _ _ hm
  obtain ⟨n0, c0, rel0, ty0⟩ := readR_struct TYok (S := [30,22,44,25,23,9,3,26,46,27,28,74]) (by kernel_rfl) (by simp) Try.underlying30 (hval 0 30 v0 rfl rfl) h0
  obtain ⟨a0, rfl, w0⟩ := ind_of _ ty0
  obtain ⟨a1, rfl, rfl, rfl, w1⟩ := open_int Try.underlying5 (hval 1 5 v1 rfl rfl) h1
  clear hA0 hval0
  have hc := (accepts_ok a0 w0 a1 (by have q := w1; simp [Lit.wf] at q; exact q)).calls (allΦ W) W #[v0, .int .u8 a1] (fits_all W)
    (ArgsRel.of (ArgsL.cons rel0 (ArgsL.cons (Rel.int _ _) ArgsL.nil)))
  refine hc.mono fun e W' ⟨v, Φ', he, hv, _, _, _, bel⟩ => ?_
  subst he
  obtain rfl : v = .bool true := AVRel.bool hv
  exact ⟨_, rfl, _, _, _, [], _, [], hW', trodAll_mk1 (shut_bool Try.underlying4 _), (trodAll_cons_mk (Below.trod laidOut (by kernel_rfl) (of_decide_eq_true (by kernel_rfl)) k0 bel lt0) (trodAll_cons_mk (shut_int Try.underlying5 w1) trodAll_mk0)), rfl, bel.frame _, fun h => by cases h⟩
theorem over : Rows.unitsAcceptsRow.holds Try.pinned (OpenSpec.ofChange Rows.unitsAcceptsSpec) :=
  OpenClaim.holds_of_wide 5 Try.f5 rfl rfl rfl rfl rfl rfl rfl ⟨rfl, rfl, rfl, rfl, rfl⟩ rfl rfl rfl rfl rfl (by kernel_rfl) Try.func5 (by kernel_rfl)
    (of_decide_eq_true (by kernel_rfl)) (by unfold Func.isWrapper; first | (rw [if_pos (by decide +kernel)]; kernel_rfl) | (rw [if_neg (by decide +kernel)]; exact ⟨rfl, rfl⟩))
    (fun os started H enc _ => lifted os started H enc)
end AcceptsRow
theorem unitsAccepts_proved : Rows.UnitsAcceptsSaid := AcceptsRow.over
end Go.Proofs.Ytppdbmobcfedcaa
end
