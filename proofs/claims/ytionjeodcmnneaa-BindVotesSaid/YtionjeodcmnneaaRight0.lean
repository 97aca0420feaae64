/-
  Right expressions, operations 0.
-/
import Derived.Test.YtionjeodcmnneaaWalk3
set_option linter.unusedVariables false
set_option linter.unusedSimpArgs false
set_option maxHeartbeats 8000000
namespace Go.Proofs.Ytionjeodcmnneaa
open Lf Go
attribute [local irreducible] PureOp EffOp Ev RG W Then InBlock Lf.Fin nth App InitE Pick SubE SubF SubG EvL EvD EvP EvR ResL Lf.Lex SubR SubBR RA RAll EvC FinO FinM ResM FinB ResD

theorem right0_a
    {d : Nat} {n u : Int} {s : Str} {l : List Exp} (hs : s.length ≤ 9223372036854775807) (hl : l.length ≤ 9223372036854775807) (hlen : (l.length : Int) = opsF 0)
    (hdc : (((d + 1 : Nat) : Int)) ≠ 0) (hdb : (d : Int) ≤ 100) (ih : ∀ x ∈ l, ACalls Try.prog 72 [aE x, cI (((d + 1 : Nat) : Int) - 1)] (.pv (cB (rightF d x)))) (cl : ∀ x ∈ l, ACalls Try.prog 86 [aE x, .one (.ptr [.int .i64 ((d + 1 : Nat) : Int)])] (.pv (cB (!rightF d x))))
    (hA : decide (s = E0) = false) : ACalls Try.prog 72 [.agg [.int .i64 0, .int .i64 n, .int .i64 u, .str s, .sl (l.map encX)], cI ((d + 1 : Nat) : Int)] (.pv (cB false)) := by
  refine ACalls.of_W (qs := [cB false]) [4] 104 Try.func72 (by kernel_rfl) rfl rfl rfl fun G => ?_
  refine W.initA (hw := ?_)
  repeat' (first
    | apply RG.nil
    | apply Lex.nil
    | apply Then.n
    | apply Then.r
    | apply Then.x
    | apply InBlock.n
    | apply InBlock.r
    | apply InBlock.hit
    | (apply InBlock.miss; exact rfl)
    | apply W.seq
    | apply W.region
    | apply W.block
    | apply W.skip
    | apply W.ret
    | apply W.exit
    | (apply W.draw2 (id := 1) [0, 1, 3, 7, 15, 31, 7, 71, 199, 511, 1023] [[3], [6], [7], [2, 8], [9, 8], [10, 8], [2, 8], [12, 8], [13, 8], [11, 14, 8], [8, 15]] 11 [(6, 8), (7, 64), (8, 128), (9, 260), (10, 768), (11, 1280), (12, 260), (13, 4352), (14, 8448), (15, 18688), (16, 33024)] mixed (by kernel_rfl) rfl rfl)
    | (refine W.drawA (id := 16) (L := [false, false, false, false, false, false, false, false, false, false, false, false, false, false, false, false, false, false, false, false, false, false, false, false]) mixed rfl ?_)
    | exact RAll.nil
    | (refine RAll.cons rfl ?_ ?_)
    | (refine RA.step (L := [false, false, false, false, false, false, false, false, false, false, false, false, false, false, false, false, false, false, false, false, false, false, false, false]) (i := 0) (is := []) (by kernel_rfl) ?_)
    | (refine RA.step (L := [true, false, false, false, false, false, false, false, false, false, false, false, false, false, false, false, false, false, false, false, false, false, false, false]) (i := 1) (is := []) (by kernel_rfl) ?_)
    | (refine RA.step (L := [true, true, false, false, false, false, false, false, false, false, false, false, false, false, false, false, false, false, false, false, false, false, false, false]) (i := 2) (is := []) (by kernel_rfl) ?_)
    | (refine RA.step (L := [true, true, true, false, false, false, false, false, false, false, false, false, false, false, false, false, false, false, false, false, false, false, false, false]) (i := 3) (is := []) (by kernel_rfl) ?_)
    | (refine RA.step (L := [true, true, true, true, false, false, false, false, false, false, false, false, false, false, false, false, false, false, false, false, false, false, false, false]) (i := 4) (is := []) (by kernel_rfl) ?_)
    | (refine RA.step (L := [true, true, true, true, true, false, false, false, false, false, false, false, false, false, false, false, false, false, false, false, false, false, false, false]) (i := 5) (is := []) (by kernel_rfl) ?_)
    | (refine RA.step (L := [true, true, true, true, true, true, false, false, false, false, false, false, false, false, false, false, false, false, false, false, false, false, false, false]) (i := 6) (is := []) (by kernel_rfl) ?_)
    | (refine RA.step (L := [true, true, true, true, true, true, true, false, false, false, false, false, false, false, false, false, false, false, false, false, false, false, false, false]) (i := 7) (is := []) (by kernel_rfl) ?_)
    | (refine RA.step (L := [true, true, true, true, true, true, true, true, false, false, false, false, false, false, false, false, false, false, false, false, false, false, false, false]) (i := 8) (is := []) (by kernel_rfl) ?_)
    | (refine RA.step (L := [true, true, true, true, true, true, true, true, true, false, false, false, false, false, false, false, false, false, false, false, false, false, false, false]) (i := 9) (is := []) (by kernel_rfl) ?_)
    | (refine RA.step (L := [true, true, true, true, true, true, true, true, true, true, false, false, false, false, false, false, false, false, false, false, false, false, false, false]) (i := 10) (is := []) (by kernel_rfl) ?_)
    | (refine RA.step (L := [true, true, true, true, true, true, true, true, true, true, true, false, false, false, false, false, false, false, false, false, false, false, false, false]) (i := 11) (is := []) (by kernel_rfl) ?_)
    | (refine RA.step (L := [true, true, true, true, true, true, true, true, true, true, true, true, false, false, false, false, false, false, false, false, false, false, false, false]) (i := 12) (is := []) (by kernel_rfl) ?_)
    | (refine RA.step (L := [true, true, true, true, true, true, true, true, true, true, true, true, true, false, false, false, false, false, false, false, false, false, false, false]) (i := 13) (is := []) (by kernel_rfl) ?_)
    | (refine RA.step (L := [true, true, true, true, true, true, true, true, true, true, true, true, true, true, false, false, false, false, false, false, false, false, false, false]) (i := 14) (is := []) (by kernel_rfl) ?_)
    | (refine RA.step (L := [true, true, true, true, true, true, true, true, true, true, true, true, true, true, true, false, false, false, false, false, false, false, false, false]) (i := 15) (is := [19]) (by kernel_rfl) ?_)
    | (refine RA.step (L := [true, true, true, true, true, true, true, true, true, true, true, true, true, true, true, false, false, false, false, true, false, false, false, false]) (i := 15) (is := [20]) (by kernel_rfl) ?_)
    | (refine RA.step (L := [true, true, true, true, true, true, true, true, true, true, true, true, true, true, true, false, false, false, false, true, true, false, false, false]) (i := 15) (is := []) (by kernel_rfl) ?_)
    | (refine RA.step (L := [true, true, true, true, true, true, true, true, true, true, true, true, true, true, true, true, false, false, false, true, true, false, false, false]) (i := 16) (is := []) (by kernel_rfl) ?_)
    | (refine RA.step (L := [true, true, true, true, true, true, true, true, true, true, true, true, true, true, true, true, true, false, false, true, true, false, false, false]) (i := 17) (is := []) (by kernel_rfl) ?_)
    | (refine RA.step (L := [true, true, true, true, true, true, true, true, true, true, true, true, true, true, true, true, true, true, false, true, true, false, false, false]) (i := 18) (is := []) (by kernel_rfl) ?_)
    | (refine RA.step (L := [true, true, true, true, true, true, true, true, true, true, true, true, true, true, true, true, true, true, true, true, true, false, false, false]) (i := 21) (is := []) (by kernel_rfl) ?_)
    | (refine RA.step (L := [true, true, true, true, true, true, true, true, true, true, true, true, true, true, true, true, true, true, true, true, true, true, false, false]) (i := 22) (is := []) (by kernel_rfl) ?_)
    | (refine RA.step (L := [true, true, true, true, true, true, true, true, true, true, true, true, true, true, true, true, true, true, true, true, true, true, true, false]) (i := 23) (is := []) (by kernel_rfl) ?_)
    | (refine RA.done (L := [true, true, true, true, true, true, true, true, true, true, true, true, true, true, true, true, true, true, true, true, true, true, true, true]) (by kernel_rfl) ?_)
    | (refine RA.step (L := [true, true, true, true, true, true, true, true, true, true, true, true, true, true, true, true, false, false, false, true, false, false, false, false]) (i := 16) (is := [20]) (by kernel_rfl) ?_)
    | (refine RA.step (L := [true, true, true, true, true, true, true, true, true, true, true, true, true, true, true, true, true, false, false, true, false, false, false, false]) (i := 17) (is := [20]) (by kernel_rfl) ?_)
    | (refine RA.step (L := [true, true, true, true, true, true, true, true, true, true, true, true, true, true, true, true, true, true, false, true, false, false, false, false]) (i := 18) (is := [20]) (by kernel_rfl) ?_)
    | (refine RA.step (L := [true, true, true, true, true, true, true, true, true, true, true, true, true, true, true, true, true, true, true, true, false, false, false, false]) (i := 20) (is := []) (by kernel_rfl) ?_)
    | (refine RA.step (L := [true, true, true, true, true, true, true, true, true, true, true, true, true, true, true, true, false, false, false, false, false, false, false, false]) (i := 16) (is := [19]) (by kernel_rfl) ?_)
    | (refine RA.step (L := [true, true, true, true, true, true, true, true, true, true, true, true, true, true, true, true, true, false, false, false, false, false, false, false]) (i := 17) (is := [19]) (by kernel_rfl) ?_)
    | (refine RA.step (L := [true, true, true, true, true, true, true, true, true, true, true, true, true, true, true, true, true, true, false, false, false, false, false, false]) (i := 18) (is := [19]) (by kernel_rfl) ?_)
    | (refine RA.step (L := [true, true, true, true, true, true, true, true, true, true, true, true, true, true, true, true, true, true, true, false, false, false, false, false]) (i := 19) (is := []) (by kernel_rfl) ?_)
    | ((first | apply U_ | (apply Ug_; exact rfl; exact rfl) | (apply Ugq_; exact rfl; exact rfl) | apply Lex.u | (apply Lex.g; exact rfl; exact rfl) | (apply Lex.gq; exact rfl; exact rfl)); (first
    | exact QX.Move TYok
    | exact QX.Asg TYok
    | exact QX.Fld TYok
    | exact QX.Ld TYok
    | exact QX.Bin TYok
    | exact QX.Pick TYok
    | exact QX.Un TYok
    | exact QX.Len TYok
    | exact QX.Idx TYok
    | exact QX.Fun TYok
    | (apply Q_call (operands_ok 0); exact EvL.auto; exact rfl)); exact rfl)
    | refine SX.Lit TYok (h := ?_)
    | refine SX.Box TYok (h := ?_)
    | (apply S_isnil TYok; exact rfl; exact rfl; exact rfl; exact Ev.auto; intro bn hnil)
    | (apply RG.gT; exact rfl; exact rfl; (first | assumption | decide))
    | (apply RG.gF; exact rfl; exact rfl; (first | assumption | decide | (rw [ne_eq, Bool.not_eq_true]; assumption) | (rw [ne_eq, Bool.not_eq_false]; assumption)); exact rfl)
    | (refine W.condA (ht := fun hb => ?_) (hf := fun hb => ?_) <;> (try simp at hb) <;> (try (exfalso; omega))))
  all_goals exact Fin.ret ResL.auto
theorem right0_b
    {d : Nat} {n u : Int} {s : Str} {l : List Exp} (hs : s.length ≤ 9223372036854775807) (hl : l.length ≤ 9223372036854775807) (hlen : (l.length : Int) = opsF 0)
    (hdc : (((d + 1 : Nat) : Int)) ≠ 0) (hdb : (d : Int) ≤ 100) (ih : ∀ x ∈ l, ACalls Try.prog 72 [aE x, cI (((d + 1 : Nat) : Int) - 1)] (.pv (cB (rightF d x)))) (cl : ∀ x ∈ l, ACalls Try.prog 86 [aE x, .one (.ptr [.int .i64 ((d + 1 : Nat) : Int)])] (.pv (cB (!rightF d x))))
    (hA : decide (s = E0) = true) (hB : [u].all (inF 0 4) = false) : ACalls Try.prog 72 [.agg [.int .i64 0, .int .i64 n, .int .i64 u, .str s, .sl (l.map encX)], cI ((d + 1 : Nat) : Int)] (.pv (cB false)) := by
  have hC : (decide (s = E0) && [u].all (inF 0 4)) = false := by rw [hA, hB]; rfl
  refine ACalls.of_W (qs := [cB false]) [4] 104 Try.func72 (by kernel_rfl) rfl rfl rfl fun G => ?_
  refine W.initA (hw := ?_)
  repeat' (first
    | apply RG.nil
    | apply Lex.nil
    | apply Then.n
    | apply Then.r
    | apply Then.x
    | apply InBlock.n
    | apply InBlock.r
    | apply InBlock.hit
    | (apply InBlock.miss; exact rfl)
    | apply W.seq
    | apply W.region
    | apply W.block
    | apply W.skip
    | apply W.ret
    | apply W.exit
    | (apply W.draw2 (id := 1) [0, 1, 3, 7, 15, 31, 7, 71, 199, 511, 1023] [[3], [6], [7], [2, 8], [9, 8], [10, 8], [2, 8], [12, 8], [13, 8], [11, 14, 8], [8, 15]] 11 [(6, 8), (7, 64), (8, 128), (9, 260), (10, 768), (11, 1280), (12, 260), (13, 4352), (14, 8448), (15, 18688), (16, 33024)] mixed (by kernel_rfl) rfl rfl)
    | (refine W.drawA (id := 16) (L := [false, false, false, false, false, false, false, false, false, false, false, false, false, false, false, false, false, false, false, false, false, false, false, false]) mixed rfl ?_)
    | exact RAll.nil
    | (refine RAll.cons rfl ?_ ?_)
    | (refine RA.step (L := [false, false, false, false, false, false, false, false, false, false, false, false, false, false, false, false, false, false, false, false, false, false, false, false]) (i := 0) (is := []) (by kernel_rfl) ?_)
    | (refine RA.step (L := [true, false, false, false, false, false, false, false, false, false, false, false, false, false, false, false, false, false, false, false, false, false, false, false]) (i := 1) (is := []) (by kernel_rfl) ?_)
    | (refine RA.step (L := [true, true, false, false, false, false, false, false, false, false, false, false, false, false, false, false, false, false, false, false, false, false, false, false]) (i := 2) (is := []) (by kernel_rfl) ?_)
    | (refine RA.step (L := [true, true, true, false, false, false, false, false, false, false, false, false, false, false, false, false, false, false, false, false, false, false, false, false]) (i := 3) (is := []) (by kernel_rfl) ?_)
    | (refine RA.step (L := [true, true, true, true, false, false, false, false, false, false, false, false, false, false, false, false, false, false, false, false, false, false, false, false]) (i := 4) (is := []) (by kernel_rfl) ?_)
    | (refine RA.step (L := [true, true, true, true, true, false, false, false, false, false, false, false, false, false, false, false, false, false, false, false, false, false, false, false]) (i := 5) (is := []) (by kernel_rfl) ?_)
    | (refine RA.step (L := [true, true, true, true, true, true, false, false, false, false, false, false, false, false, false, false, false, false, false, false, false, false, false, false]) (i := 6) (is := []) (by kernel_rfl) ?_)
    | (refine RA.step (L := [true, true, true, true, true, true, true, false, false, false, false, false, false, false, false, false, false, false, false, false, false, false, false, false]) (i := 7) (is := []) (by kernel_rfl) ?_)
    | (refine RA.step (L := [true, true, true, true, true, true, true, true, false, false, false, false, false, false, false, false, false, false, false, false, false, false, false, false]) (i := 8) (is := []) (by kernel_rfl) ?_)
    | (refine RA.step (L := [true, true, true, true, true, true, true, true, true, false, false, false, false, false, false, false, false, false, false, false, false, false, false, false]) (i := 9) (is := []) (by kernel_rfl) ?_)
    | (refine RA.step (L := [true, true, true, true, true, true, true, true, true, true, false, false, false, false, false, false, false, false, false, false, false, false, false, false]) (i := 10) (is := []) (by kernel_rfl) ?_)
    | (refine RA.step (L := [true, true, true, true, true, true, true, true, true, true, true, false, false, false, false, false, false, false, false, false, false, false, false, false]) (i := 11) (is := []) (by kernel_rfl) ?_)
    | (refine RA.step (L := [true, true, true, true, true, true, true, true, true, true, true, true, false, false, false, false, false, false, false, false, false, false, false, false]) (i := 12) (is := []) (by kernel_rfl) ?_)
    | (refine RA.step (L := [true, true, true, true, true, true, true, true, true, true, true, true, true, false, false, false, false, false, false, false, false, false, false, false]) (i := 13) (is := []) (by kernel_rfl) ?_)
    | (refine RA.step (L := [true, true, true, true, true, true, true, true, true, true, true, true, true, true, false, false, false, false, false, false, false, false, false, false]) (i := 14) (is := []) (by kernel_rfl) ?_)
    | (refine RA.step (L := [true, true, true, true, true, true, true, true, true, true, true, true, true, true, true, false, false, false, false, false, false, false, false, false]) (i := 15) (is := [19]) (by kernel_rfl) ?_)
    | (refine RA.step (L := [true, true, true, true, true, true, true, true, true, true, true, true, true, true, true, false, false, false, false, true, false, false, false, false]) (i := 15) (is := [20]) (by kernel_rfl) ?_)
    | (refine RA.step (L := [true, true, true, true, true, true, true, true, true, true, true, true, true, true, true, false, false, false, false, true, true, false, false, false]) (i := 15) (is := []) (by kernel_rfl) ?_)
    | (refine RA.step (L := [true, true, true, true, true, true, true, true, true, true, true, true, true, true, true, true, false, false, false, true, true, false, false, false]) (i := 16) (is := []) (by kernel_rfl) ?_)
    | (refine RA.step (L := [true, true, true, true, true, true, true, true, true, true, true, true, true, true, true, true, true, false, false, true, true, false, false, false]) (i := 17) (is := []) (by kernel_rfl) ?_)
    | (refine RA.step (L := [true, true, true, true, true, true, true, true, true, true, true, true, true, true, true, true, true, true, false, true, true, false, false, false]) (i := 18) (is := []) (by kernel_rfl) ?_)
    | (refine RA.step (L := [true, true, true, true, true, true, true, true, true, true, true, true, true, true, true, true, true, true, true, true, true, false, false, false]) (i := 21) (is := []) (by kernel_rfl) ?_)
    | (refine RA.step (L := [true, true, true, true, true, true, true, true, true, true, true, true, true, true, true, true, true, true, true, true, true, true, false, false]) (i := 22) (is := []) (by kernel_rfl) ?_)
    | (refine RA.step (L := [true, true, true, true, true, true, true, true, true, true, true, true, true, true, true, true, true, true, true, true, true, true, true, false]) (i := 23) (is := []) (by kernel_rfl) ?_)
    | (refine RA.done (L := [true, true, true, true, true, true, true, true, true, true, true, true, true, true, true, true, true, true, true, true, true, true, true, true]) (by kernel_rfl) ?_)
    | (refine RA.step (L := [true, true, true, true, true, true, true, true, true, true, true, true, true, true, true, true, false, false, false, true, false, false, false, false]) (i := 16) (is := [20]) (by kernel_rfl) ?_)
    | (refine RA.step (L := [true, true, true, true, true, true, true, true, true, true, true, true, true, true, true, true, true, false, false, true, false, false, false, false]) (i := 17) (is := [20]) (by kernel_rfl) ?_)
    | (refine RA.step (L := [true, true, true, true, true, true, true, true, true, true, true, true, true, true, true, true, true, true, false, true, false, false, false, false]) (i := 18) (is := [20]) (by kernel_rfl) ?_)
    | (refine RA.step (L := [true, true, true, true, true, true, true, true, true, true, true, true, true, true, true, true, true, true, true, true, false, false, false, false]) (i := 20) (is := []) (by kernel_rfl) ?_)
    | (refine RA.step (L := [true, true, true, true, true, true, true, true, true, true, true, true, true, true, true, true, false, false, false, false, false, false, false, false]) (i := 16) (is := [19]) (by kernel_rfl) ?_)
    | (refine RA.step (L := [true, true, true, true, true, true, true, true, true, true, true, true, true, true, true, true, true, false, false, false, false, false, false, false]) (i := 17) (is := [19]) (by kernel_rfl) ?_)
    | (refine RA.step (L := [true, true, true, true, true, true, true, true, true, true, true, true, true, true, true, true, true, true, false, false, false, false, false, false]) (i := 18) (is := [19]) (by kernel_rfl) ?_)
    | (refine RA.step (L := [true, true, true, true, true, true, true, true, true, true, true, true, true, true, true, true, true, true, true, false, false, false, false, false]) (i := 19) (is := []) (by kernel_rfl) ?_)
    | ((first | apply U_ | (apply Ug_; exact rfl; exact rfl) | (apply Ugq_; exact rfl; exact rfl) | apply Lex.u | (apply Lex.g; exact rfl; exact rfl) | (apply Lex.gq; exact rfl; exact rfl)); (first
    | exact QX.Move TYok
    | exact QX.Asg TYok
    | exact QX.Fld TYok
    | exact QX.Ld TYok
    | exact QX.Bin TYok
    | exact QX.Pick TYok
    | exact QX.Un TYok
    | exact QX.Len TYok
    | exact QX.Idx TYok
    | exact QX.Fun TYok
    | (apply Q_call (operands_ok 0); exact EvL.auto; exact rfl)
    | (apply Q_call (in_ok 0 4 [u] (by simp)); exact EvL.auto; exact rfl)); exact rfl)
    | refine SX.Lit TYok (h := ?_)
    | refine SX.Box TYok (h := ?_)
    | (apply S_isnil TYok; exact rfl; exact rfl; exact rfl; exact Ev.auto; intro bn hnil)
    | (apply RG.gT; exact rfl; exact rfl; (first | assumption | decide))
    | (apply RG.gF; exact rfl; exact rfl; (first | assumption | decide | (rw [ne_eq, Bool.not_eq_true]; assumption) | (rw [ne_eq, Bool.not_eq_false]; assumption)); exact rfl)
    | (refine W.condA (ht := fun hb => ?_) (hf := fun hb => ?_) <;> (try simp at hb) <;> (try (exfalso; omega))))
  all_goals exact Fin.ret ResL.auto
theorem right0_c
    {d : Nat} {n u : Int} {s : Str} {l : List Exp} (hs : s.length ≤ 9223372036854775807) (hl : l.length ≤ 9223372036854775807) (hlen : (l.length : Int) = opsF 0)
    (hdc : (((d + 1 : Nat) : Int)) ≠ 0) (hdb : (d : Int) ≤ 100) (ih : ∀ x ∈ l, ACalls Try.prog 72 [aE x, cI (((d + 1 : Nat) : Int) - 1)] (.pv (cB (rightF d x)))) (cl : ∀ x ∈ l, ACalls Try.prog 86 [aE x, .one (.ptr [.int .i64 ((d + 1 : Nat) : Int)])] (.pv (cB (!rightF d x))))
    (hA : decide (s = E0) = true) (hB : [u].all (inF 0 4) = true) : ACalls Try.prog 72 [.agg [.int .i64 0, .int .i64 n, .int .i64 u, .str s, .sl (l.map encX)], cI ((d + 1 : Nat) : Int)] (.pv (cB (decide (s = E0) && [u].all (inF 0 4) && [n].all (inF 0 (if u = 4 then 1 else 1000000000000000))))) := by
  have hC : (decide (s = E0) && [u].all (inF 0 4)) = true := by rw [hA, hB]; rfl
  refine ACalls.of_W (qs := [cB (decide (s = E0) && [u].all (inF 0 4) && [n].all (inF 0 (if u = 4 then 1 else 1000000000000000)))]) [4] 104 Try.func72 (by kernel_rfl) rfl rfl rfl fun G => ?_
  refine W.initA (hw := ?_)
  repeat' (first
    | apply RG.nil
    | apply Lex.nil
    | apply Then.n
    | apply Then.r
    | apply Then.x
    | apply InBlock.n
    | apply InBlock.r
    | apply InBlock.hit
    | (apply InBlock.miss; exact rfl)
    | apply W.seq
    | apply W.region
    | apply W.block
    | apply W.skip
    | apply W.ret
    | apply W.exit
    | (apply W.draw2 (id := 1) [0, 1, 3, 7, 15, 31, 7, 71, 199, 511, 1023] [[3], [6], [7], [2, 8], [9, 8], [10, 8], [2, 8], [12, 8], [13, 8], [11, 14, 8], [8, 15]] 11 [(6, 8), (7, 64), (8, 128), (9, 260), (10, 768), (11, 1280), (12, 260), (13, 4352), (14, 8448), (15, 18688), (16, 33024)] mixed (by kernel_rfl) rfl rfl)
    | (refine W.drawA (id := 16) (L := [false, false, false, false, false, false, false, false, false, false, false, false, false, false, false, false, false, false, false, false, false, false, false, false]) mixed rfl ?_)
    | exact RAll.nil
    | (refine RAll.cons rfl ?_ ?_)
    | (refine RA.step (L := [false, false, false, false, false, false, false, false, false, false, false, false, false, false, false, false, false, false, false, false, false, false, false, false]) (i := 0) (is := []) (by kernel_rfl) ?_)
    | (refine RA.step (L := [true, false, false, false, false, false, false, false, false, false, false, false, false, false, false, false, false, false, false, false, false, false, false, false]) (i := 1) (is := []) (by kernel_rfl) ?_)
    | (refine RA.step (L := [true, true, false, false, false, false, false, false, false, false, false, false, false, false, false, false, false, false, false, false, false, false, false, false]) (i := 2) (is := []) (by kernel_rfl) ?_)
    | (refine RA.step (L := [true, true, true, false, false, false, false, false, false, false, false, false, false, false, false, false, false, false, false, false, false, false, false, false]) (i := 3) (is := []) (by kernel_rfl) ?_)
    | (refine RA.step (L := [true, true, true, true, false, false, false, false, false, false, false, false, false, false, false, false, false, false, false, false, false, false, false, false]) (i := 4) (is := []) (by kernel_rfl) ?_)
    | (refine RA.step (L := [true, true, true, true, true, false, false, false, false, false, false, false, false, false, false, false, false, false, false, false, false, false, false, false]) (i := 5) (is := []) (by kernel_rfl) ?_)
    | (refine RA.step (L := [true, true, true, true, true, true, false, false, false, false, false, false, false, false, false, false, false, false, false, false, false, false, false, false]) (i := 6) (is := []) (by kernel_rfl) ?_)
    | (refine RA.step (L := [true, true, true, true, true, true, true, false, false, false, false, false, false, false, false, false, false, false, false, false, false, false, false, false]) (i := 7) (is := []) (by kernel_rfl) ?_)
    | (refine RA.step (L := [true, true, true, true, true, true, true, true, false, false, false, false, false, false, false, false, false, false, false, false, false, false, false, false]) (i := 8) (is := []) (by kernel_rfl) ?_)
    | (refine RA.step (L := [true, true, true, true, true, true, true, true, true, false, false, false, false, false, false, false, false, false, false, false, false, false, false, false]) (i := 9) (is := []) (by kernel_rfl) ?_)
    | (refine RA.step (L := [true, true, true, true, true, true, true, true, true, true, false, false, false, false, false, false, false, false, false, false, false, false, false, false]) (i := 10) (is := []) (by kernel_rfl) ?_)
    | (refine RA.step (L := [true, true, true, true, true, true, true, true, true, true, true, false, false, false, false, false, false, false, false, false, false, false, false, false]) (i := 11) (is := []) (by kernel_rfl) ?_)
    | (refine RA.step (L := [true, true, true, true, true, true, true, true, true, true, true, true, false, false, false, false, false, false, false, false, false, false, false, false]) (i := 12) (is := []) (by kernel_rfl) ?_)
    | (refine RA.step (L := [true, true, true, true, true, true, true, true, true, true, true, true, true, false, false, false, false, false, false, false, false, false, false, false]) (i := 13) (is := []) (by kernel_rfl) ?_)
    | (refine RA.step (L := [true, true, true, true, true, true, true, true, true, true, true, true, true, true, false, false, false, false, false, false, false, false, false, false]) (i := 14) (is := []) (by kernel_rfl) ?_)
    | (refine RA.step (L := [true, true, true, true, true, true, true, true, true, true, true, true, true, true, true, false, false, false, false, false, false, false, false, false]) (i := 15) (is := [19]) (by kernel_rfl) ?_)
    | (refine RA.step (L := [true, true, true, true, true, true, true, true, true, true, true, true, true, true, true, false, false, false, false, true, false, false, false, false]) (i := 15) (is := [20]) (by kernel_rfl) ?_)
    | (refine RA.step (L := [true, true, true, true, true, true, true, true, true, true, true, true, true, true, true, false, false, false, false, true, true, false, false, false]) (i := 15) (is := []) (by kernel_rfl) ?_)
    | (refine RA.step (L := [true, true, true, true, true, true, true, true, true, true, true, true, true, true, true, true, false, false, false, true, true, false, false, false]) (i := 16) (is := []) (by kernel_rfl) ?_)
    | (refine RA.step (L := [true, true, true, true, true, true, true, true, true, true, true, true, true, true, true, true, true, false, false, true, true, false, false, false]) (i := 17) (is := []) (by kernel_rfl) ?_)
    | (refine RA.step (L := [true, true, true, true, true, true, true, true, true, true, true, true, true, true, true, true, true, true, false, true, true, false, false, false]) (i := 18) (is := []) (by kernel_rfl) ?_)
    | (refine RA.step (L := [true, true, true, true, true, true, true, true, true, true, true, true, true, true, true, true, true, true, true, true, true, false, false, false]) (i := 21) (is := []) (by kernel_rfl) ?_)
    | (refine RA.step (L := [true, true, true, true, true, true, true, true, true, true, true, true, true, true, true, true, true, true, true, true, true, true, false, false]) (i := 22) (is := []) (by kernel_rfl) ?_)
    | (refine RA.step (L := [true, true, true, true, true, true, true, true, true, true, true, true, true, true, true, true, true, true, true, true, true, true, true, false]) (i := 23) (is := []) (by kernel_rfl) ?_)
    | (refine RA.done (L := [true, true, true, true, true, true, true, true, true, true, true, true, true, true, true, true, true, true, true, true, true, true, true, true]) (by kernel_rfl) ?_)
    | (refine RA.step (L := [true, true, true, true, true, true, true, true, true, true, true, true, true, true, true, true, false, false, false, true, false, false, false, false]) (i := 16) (is := [20]) (by kernel_rfl) ?_)
    | (refine RA.step (L := [true, true, true, true, true, true, true, true, true, true, true, true, true, true, true, true, true, false, false, true, false, false, false, false]) (i := 17) (is := [20]) (by kernel_rfl) ?_)
    | (refine RA.step (L := [true, true, true, true, true, true, true, true, true, true, true, true, true, true, true, true, true, true, false, true, false, false, false, false]) (i := 18) (is := [20]) (by kernel_rfl) ?_)
    | (refine RA.step (L := [true, true, true, true, true, true, true, true, true, true, true, true, true, true, true, true, true, true, true, true, false, false, false, false]) (i := 20) (is := []) (by kernel_rfl) ?_)
    | (refine RA.step (L := [true, true, true, true, true, true, true, true, true, true, true, true, true, true, true, true, false, false, false, false, false, false, false, false]) (i := 16) (is := [19]) (by kernel_rfl) ?_)
    | (refine RA.step (L := [true, true, true, true, true, true, true, true, true, true, true, true, true, true, true, true, true, false, false, false, false, false, false, false]) (i := 17) (is := [19]) (by kernel_rfl) ?_)
    | (refine RA.step (L := [true, true, true, true, true, true, true, true, true, true, true, true, true, true, true, true, true, true, false, false, false, false, false, false]) (i := 18) (is := [19]) (by kernel_rfl) ?_)
    | (refine RA.step (L := [true, true, true, true, true, true, true, true, true, true, true, true, true, true, true, true, true, true, true, false, false, false, false, false]) (i := 19) (is := []) (by kernel_rfl) ?_)
    | ((first | apply U_ | (apply Ug_; exact rfl; exact rfl) | (apply Ugq_; exact rfl; exact rfl) | apply Lex.u | (apply Lex.g; exact rfl; exact rfl) | (apply Lex.gq; exact rfl; exact rfl)); (first
    | exact QX.Move TYok
    | exact QX.Asg TYok
    | exact QX.Fld TYok
    | exact QX.Ld TYok
    | exact QX.Bin TYok
    | exact QX.Pick TYok
    | exact QX.Un TYok
    | exact QX.Len TYok
    | exact QX.Idx TYok
    | exact QX.Fun TYok
    | (apply Q_call (operands_ok 0); exact EvL.auto; exact rfl)
    | (apply Q_call (in_ok 0 4 [u] (by simp)); exact EvL.auto; exact rfl)
    | (apply Q_call (in_ok 0 1000000000000000 [n] (by simp)); exact EvL.auto; exact rfl)
    | (apply Q_call (in_ok 0 1 [n] (by simp)); exact EvL.auto; exact rfl)); exact rfl)
    | refine SX.Lit TYok (h := ?_)
    | refine SX.Box TYok (h := ?_)
    | (apply S_isnil TYok; exact rfl; exact rfl; exact rfl; exact Ev.auto; intro bn hnil)
    | (apply RG.gT; exact rfl; exact rfl; (first | assumption | decide))
    | (apply RG.gF; exact rfl; exact rfl; (first | assumption | decide | (rw [ne_eq, Bool.not_eq_true]; assumption) | (rw [ne_eq, Bool.not_eq_false]; assumption)); exact rfl)
    | (refine W.condA (ht := fun hb => ?_) (hf := fun hb => ?_) <;> (try simp at hb) <;> (try (exfalso; omega))))
  · rw [if_pos hb]
    exact Fin.ret ResL.auto
  · rw [if_neg hb]
    exact Fin.ret ResL.auto
end Go.Proofs.Ytionjeodcmnneaa
