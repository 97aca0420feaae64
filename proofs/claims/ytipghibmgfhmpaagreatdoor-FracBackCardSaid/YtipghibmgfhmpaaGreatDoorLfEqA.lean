/-
  Structs of plain fields compared, field by field.
-/
import Derived.Test.YtipghibmgfhmpaaGreatDoorLfIdx
set_option linter.unusedVariables false
set_option linter.unusedSimpArgs false
set_option linter.unusedSectionVars false
namespace Lf
open Go Go.RowKit
def ceq : Cell → Cell → Bool
  | .int _ a, .int _ b => a == b
  | .bool a, .bool b => a == b
  | .str a, .str b => a == b
  | _, _ => false
def clEq : List Cell → List Cell → Bool
  | c :: cs, d :: ds => ceq c d && clEq cs ds
  | [], [] => true
  | _, _ => false
def kfit : TK → Cell → Cell → Bool
  | .int _, .int k _, .int k' _ => decide (k = k')
  | .bool, .bool _, .bool _ => true
  | .string, .str _, .str _ => true
  | _, _, _ => false
def okF (T : TT) : List (Bool × Nat × Nat) → Nat → List Cell → List Cell → Bool
  | [], _, [], [] => true
  | (n, t, off) :: L, o, c :: cs, d :: ds => !n && Nat.beq off o && (match T t with | some ti => kfit ti.kind c d && Nat.beq ti.sz 1 | none => false) && okF T L (o + 1) cs ds
  | _, _, _, _ => false
structure EqOK (P : Program) (t : Nat) (L : List (Bool × Nat × Nat)) : Prop where
  hu : P.underlying t = some (.struct (P.fieldsOf t))
  hs : P.stoodInHeld t = false
  hm : P.eqGuardType P.depth t = false
  hf : (P.fieldsOf t).toList.map (fun f => (f.name == "_", f.type, f.offset)) = L
section
variable {P : Program} {T : TT} (hT : TOK P T)
include hT
theorem run_ceq {t d : Nat} {ti : TI} {c e : Cell} {Φ : Frz} {u v : Value} (ht : T t = some ti) (hk : kfit ti.kind c e = true) (h1 : Rel Φ u c) (h2 : Rel Φ v e) (w : World) : (Op.equalIn (d + 1) t u v).run P w = .ok (ceq c e) w := by
  have hok := (hT _ _ ht).kind
  generalize ti.kind = K at hk hok
  cases K with
  | int k =>
    cases c <;> cases e <;> first | (cases hk; done) | skip
    simp only [kfit, decide_eq_true_eq] at hk
    subst hk
    cases h1; cases h2
    exact run_equalIn_int w d t _ _ _ _ hok
  | bool =>
    cases c <;> cases e <;> first | (cases hk; done) | skip
    cases h1; cases h2
    exact run_equalIn_bool w d t _ _ hok
  | string =>
    cases c <;> cases e <;> first | (cases hk; done) | skip
    cases h1; cases h2
    rw [run_equalIn_string w d t _ _ hok]
    simp [ceq, ByteArray.toList_eq]
  | _ => cases hk
theorem run_eqF {Φ : Frz} {xs ys : Array Value} {d : Nat} (w : World) : ∀ (fs : List Field) (L : List (Bool × Nat × Nat)) (o : Nat) (cs ds : List Cell), fs.map (fun f => (f.name == "_", f.type, f.offset)) = L → okF T L o cs ds = true →
    (∀ j c, cs[j]? = some c → ∃ v, xs[o + j]? = some v ∧ Rel Φ v c) → (∀ j c, ds[j]? = some c → ∃ v, ys[o + j]? = some v ∧ Rel Φ v c) → (Op.eqFields (d + 1) xs ys fs).run P w = .ok (clEq cs ds) w
  | [], L, o, cs, ds, hL, hok, _, _ => by
    subst hL
    cases cs <;> cases ds <;> first | (cases hok; done) | skip
    simp [Op.eqFields, clEq]
  | f :: fs, L, o, cs, ds, hL, hok, hx, hy => by
    subst hL
    rw [List.map_cons] at hok
    cases cs with
    | nil => cases hok
    | cons c cs =>
      cases ds with
      | nil => cases hok
      | cons e ds =>
        rw [okF] at hok
        simp only [Bool.and_eq_true, Bool.not_eq_true', beq_eq_false_iff_ne] at hok
        obtain ⟨⟨⟨h1, h2⟩, h3⟩, h4⟩ := hok
        have h2 := Nat.eq_of_beq_eq_true h2
        cases ht : T f.type with
        | none => rw [ht] at h3; cases h3
        | some ti =>
          rw [ht] at h3
          simp only [Bool.and_eq_true] at h3
          obtain ⟨h3, h5⟩ := h3
          have h5 := Nat.eq_of_beq_eq_true h5
          have hag : ti.kind.isAgg = some false := by
            generalize ti.kind = K at h3
            cases K <;> first | rfl | (cases h3; done)
          obtain ⟨u, u1, u2⟩ := hx 0 c rfl
          obtain ⟨v, v1, v2⟩ := hy 0 e rfl
          have pt : ∀ (zs : Array Value) (z : Value), zs[o]? = some z → (part f.type zs o).run P w = .ok z w := fun zs z h => by
            simp [part, run_isAgg hT ht hag, run_sizeOf hT ht, h]
          have ih := run_eqF (Φ := Φ) (xs := xs) (ys := ys) (d := d) w fs _ (o + 1) cs ds rfl h4 (fun j c' h => by have := hx (j + 1) c' (by simpa using h); rwa [show o + (j + 1) = o + 1 + j by omega] at this) (fun j c' h => by have := hy (j + 1) c' (by simpa using h); rwa [show o + (j + 1) = o + 1 + j by omega] at this)
          rw [Op.eqFields]
          simp only [h1, h2, ne_eq, not_false_eq_true, if_true, Sem.run_bind, pt xs u u1, pt ys v v1, Result.andThen_ok, run_ceq hT ht h3 u2 v2 w]
          cases hc : ceq c e with
          | true => simp [clEq, hc, ih]
          | false => simp [clEq, hc]
theorem run_eqA {t : Nat} {L : List (Bool × Nat × Nat)} (he : EqOK P t L) {Φ : Frz} {xs ys : Array Value} {cs ds : List Cell} (hok : okF T L 0 cs ds = true) (h1 : RelL Φ xs.toList cs) (h2 : RelL Φ ys.toList ds) (w : World) : (Op.equalIn 10000 t (.agg xs) (.agg ys)).run P w = .ok (clEq cs ds) w := by
  rw [run_equalIn_agg w 9999 t xs ys he.hu he.hs]
  refine run_eqF (Φ := Φ) hT w _ _ 0 cs ds he.hf hok (fun j c h => ?_) (fun j c h => ?_)
  · obtain ⟨v, q1, q2⟩ := h1.get h; exact ⟨v, by simpa using q1, q2⟩
  · obtain ⟨v, q1, q2⟩ := h2.get h; exact ⟨v, by simpa using q1, q2⟩
variable {G : Ghost} {n0 : Nat} {env : List (Nat × (Prop × AV))} {bl : List (Nat × Blk)} {p : Prop} {dst : Option Nat} {ty : TypeId} {pos : String} {after : Array Edge} {gd : Option (Nat × Bool)}
theorem Q_neA {xt yt : Nat} {x y : Operand} {L : List (Bool × Nat × Nat)} {cs ds : List Cell} (he : EqOK P xt L) (hx : Ev (St.mk n0 env bl) p x (.pv (.agg cs))) (hy : Ev (St.mk n0 env bl) p y (.pv (.agg ds))) (hok : okF T L 0 cs ds = true) :
    PureOp P G (St.mk n0 env bl) ⟨dst, .binOp .neq xt x y yt, ty, pos, after, gd⟩ p (.pv (.one (.bool (!clEq cs ds)))) := Q_binA hx hy fun Φ xs ys w h1 h2 => by
  rw [Sem.run_bind, run_eqGuard_agg w .neq xt x y xs ys he.hm, Result.andThen_ok, run_neq_struct, run_eqA hT he hok h1 h2]
  rfl
theorem Q_eqA {xt yt : Nat} {x y : Operand} {L : List (Bool × Nat × Nat)} {cs ds : List Cell} (he : EqOK P xt L) (hx : Ev (St.mk n0 env bl) p x (.pv (.agg cs))) (hy : Ev (St.mk n0 env bl) p y (.pv (.agg ds))) (hok : okF T L 0 cs ds = true) :
    PureOp P G (St.mk n0 env bl) ⟨dst, .binOp .eql xt x y yt, ty, pos, after, gd⟩ p (.pv (.one (.bool (clEq cs ds)))) := Q_binA hx hy fun Φ xs ys w h1 h2 => by
  rw [Sem.run_bind, run_eqGuard_agg w .eql xt x y xs ys he.hm, Result.andThen_ok, run_eql_struct, run_eqA hT he hok h1 h2]
  rfl
end
end Lf
