/-
  Right expressions
-/
import Derived.Test.YtionjeodcmnneaaRight0
import Derived.Test.YtionjeodcmnneaaRight1
import Derived.Test.YtionjeodcmnneaaRight16
import Derived.Test.YtionjeodcmnneaaRight17
import Derived.Test.YtionjeodcmnneaaRight18
set_option linter.unusedVariables false
set_option linter.unusedSimpArgs false
set_option maxHeartbeats 8000000
namespace Go.Proofs.Ytionjeodcmnneaa
open Lf Go
attribute [local irreducible] PureOp EffOp Ev RG W Then InBlock Lf.Fin nth App InitE Pick SubE SubF SubG EvL EvD EvP EvR ResL Lf.Lex SubR SubBR RA RAll EvC FinO FinM ResM FinB ResD

theorem right_ok : ∀ (d : Nat) (e : Exp), d ≤ 100 → OkE e → ACalls Try.prog 72 [aE e, cI (d : Int)] (.pv (cB (rightF d e)))
  | 0, .mk op n u s l, _, he => by
    cases he with
    | mk hs hl h => rw [aE_mk, rightF]; exact right00_ok hs hl
  | d + 1, .mk op n u s l, hd, he => by
    cases he with
    | mk hs hl h =>
    have hdb : (d : Int) ≤ 100 := by omega
    have hdc : (((d + 1 : Nat) : Int)) ≠ 0 := by omega
    have ih : ∀ x ∈ l, ACalls Try.prog 72 [aE x, cI (((d + 1 : Nat) : Int) - 1)] (.pv (cB (rightF d x))) := by
      intro x hx
      rw [show (((d + 1 : Nat) : Int) - 1) = (d : Int) by omega]
      exact right_ok d x (by omega) (h x hx)
    have cl : ∀ x ∈ l, ACalls Try.prog 86 [aE x, .one (.ptr [.int .i64 ((d + 1 : Nat) : Int)])] (.pv (cB (!rightF d x))) := fun x hx => right1c_ok d x (ih x hx) hdb
    rw [aE_mk, rightF]
    by_cases hlen : (l.length : Int) = opsF op
    case neg =>
      rw [decide_eq_false hlen, Bool.false_and]
      exact rightN_ok (d := d + 1) hs hl hlen (by omega)
    rw [decide_eq_true hlen, Bool.true_and]
    have hE : ∀ b, (decide (s = E0)) = b → decide (s = []) = b := fun b h => h
    have hone : ∀ (a b x : Int), [x].all (inF a b) = inF a b x := fun a b x => by simp
    by_cases h0 : op = 0
    · subst h0
      rw [if_pos rfl]
      cases hA : decide (s = E0) with
      | false =>
        rw [Bool.false_and, Bool.false_and]
        exact right0_a hs hl hlen hdc hdb ih cl hA
      | true =>
        cases hB : [u].all (inF 0 4) with
        | false =>
          rw [← hone 0 4 u, hB, Bool.and_false, Bool.false_and]
          exact right0_b hs hl hlen hdc hdb ih cl hA hB
        | true =>
          have := right0_c hs hl hlen hdc hdb ih cl hA hB (n := n)
          rw [hA, hone, hone] at this
          exact this
    rw [if_neg h0]
    by_cases h1 : op = 1 ∨ op = 2 ∨ op = 3
    · rw [if_pos h1]
      exact right1_ok h1 hs hl hlen hdc hdb ih cl
    rw [if_neg h1]
    by_cases h2 : op = 16 ∨ op = 17 ∨ op = 18
    · rw [if_pos h2]
      have hl1 : l.length = 1 := by
        have : opsF op = 1 := by unfold opsF; rw [if_neg (by omega), if_pos (by omega)]
        omega
      have hpos : 0 < l.length := by omega
      have hall : l.all (rightF d) = rightF d (nth l 0) := by
        match l, hl1 with
        | [x], _ => simp [nth]
      rw [hall]
      have key : ∀ op : Int, (op = 16 → op = 16) := fun _ h => h
      rcases h2 with rfl | rfl | rfl
      · cases hA : (decide (u = 0) && decide (s = E0)) with
        | false =>
          have := right16_a hs hl hlen hdc hdb ih cl hA (n := n)
          rw [Bool.false_and, Bool.false_and]
          exact this
        | true =>
          cases hB : [n].all (inF 1 1000) with
          | false =>
            have := right16_b hs hl hlen hdc hdb ih cl hA hB
            rw [← hone 1 1000 n, hB, Bool.and_false, Bool.false_and]
            exact this
          | true =>
            have := right16_c hs hl hlen hdc hdb ih cl hpos hA hB
            rw [hA, hone] at this
            exact this
      · cases hA : (decide (u = 0) && decide (s = E0)) with
        | false =>
          have := right17_a hs hl hlen hdc hdb ih cl hA (n := n)
          rw [Bool.false_and, Bool.false_and]
          exact this
        | true =>
          cases hB : [n].all (inF 1 1000) with
          | false =>
            have := right17_b hs hl hlen hdc hdb ih cl hA hB
            rw [← hone 1 1000 n, hB, Bool.and_false, Bool.false_and]
            exact this
          | true =>
            have := right17_c hs hl hlen hdc hdb ih cl hpos hA hB
            rw [hA, hone] at this
            exact this
      · cases hA : (decide (u = 0) && decide (s = E0)) with
        | false =>
          have := right18_a hs hl hlen hdc hdb ih cl hA (n := n)
          rw [Bool.false_and, Bool.false_and]
          exact this
        | true =>
          cases hB : [n].all (inF 1 1000) with
          | false =>
            have := right18_b hs hl hlen hdc hdb ih cl hA hB
            rw [← hone 1 1000 n, hB, Bool.and_false, Bool.false_and]
            exact this
          | true =>
            have := right18_c hs hl hlen hdc hdb ih cl hpos hA hB
            rw [hA, hone] at this
            exact this
    rw [if_neg h2]
    have hany : l.all (rightF d) = !(l.any fun x => !rightF d x) := by
      rw [Bool.eq_iff_iff]; simp
    rw [hany]
    cases hC : (decide (n = 0) && decide (u = 0) && decide (s = E0)) with
    | false =>
      rw [Bool.false_and]
      exact rightE_a h0 h1 h2 hs hl hlen hdc hdb ih cl hC
    | true =>
      have := rightE_c h0 h1 h2 hs hl hlen hdc hdb ih cl hC
      rw [hC] at this
      exact this
end Go.Proofs.Ytionjeodcmnneaa
