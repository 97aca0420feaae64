/-
  Big integers: the law of the ring.
-/
import Derived.Test.YtldgkgfkdipdeaaDoorWalk12
import Derived.Test.YtldgkgfkdipdeaaDoorLfPurge
import Derived.Test.YtldgkgfkdipdeaaDoorLfDrawM
set_option linter.unusedVariables false
set_option linter.unusedSimpArgs false
set_option maxHeartbeats 8000000
namespace Go.Proofs.YtldgkgfkdipdeaaDoor
open Lf Go
attribute [local irreducible] PureOp EffOp Ev RG W Then InBlock Lf.Fin nth App InitE Pick SubE SubF SubG EvL EvD EvP EvR ResL Lf.Lex SubR SubBR RA RAll EvC FinO FinM ResM FinB ResD FinS val pw digs trimL

theorem mul_lt {x y : Int} {m n k : Nat} (hk : m + n = k) (hx : -pw m < x ∧ x < pw m) (hy : -pw n < y ∧ y < pw n) : -pw k < x * y ∧ x * y < pw k := by
  subst hk
  have h1 := pw_pos m
  have h2 := pw_pos n
  have h : (x * y).natAbs < (pw (m + n)).natAbs := by
    rw [pw_add, Int.natAbs_mul, Int.natAbs_mul]
    exact Nat.mul_lt_mul'' (by omega) (by omega)
  have := pw_pos (m + n)
  omega
theorem sgn0 : sgn 0 = 0 := rfl
attribute [local irreducible] sgn mag gcdZ quoZ remZ txtZ readF fullZ fullE
set_option maxRecDepth 20000 in
theorem ring_ok (s s' s'' : Int) (l l' l'' : List Int) (hl : l.length ≤ 9223372036854775807) (hl' : l'.length ≤ 9223372036854775807) (hl'' : l''.length ≤ 9223372036854775807) : GCalls Tryd.prog 2 powC 5 [aB s l, aB s' l', aB s'' l''] (.pv (cB true)) := by
  have h0 := small_ok
  have f1 := fewB_ok s l 19 hl
  have f2 := fewB_ok s' l' 19 hl'
  have f3 := fewB_ok s'' l'' 19 hl''
  have r1 := rightL_ok s l hl
  have r2 := rightL_ok s' l' hl'
  have r3 := rightL_ok s'' l'' hl''
  by_cases hw : ((l.length ≤ 19 ∧ l'.length ≤ 19) ∧ l''.length ≤ 19) ∧ rightB s l = true ∧ rightB s' l' = true ∧ rightB s'' l'' = true
  case neg =>
    generalize rightB s l = b1 at r1 hw
    generalize rightB s' l' = b2 at r2 hw
    generalize rightB s'' l'' = b3 at r3 hw
    have hw' : (((((l.length ≤ 19) ∧ l'.length ≤ 19) ∧ l''.length ≤ 19) ∧ b1 = true) ∧ b2 = true) ∧ b3 = true → False := fun ⟨⟨⟨q, a⟩, b⟩, c⟩ => hw ⟨q, a, b, c⟩
    have hw2 : ((((((l.length : Int) ≤ 19) ∧ (l'.length : Int) ≤ 19) ∧ (l''.length : Int) ≤ 19) ∧ b1 = true) ∧ b2 = true) ∧ b3 = true → False := fun ⟨⟨⟨⟨⟨p, q⟩, r⟩, a⟩, b⟩, c⟩ => hw ⟨⟨⟨by omega, by omega⟩, by omega⟩, a, b, c⟩
    refine GCalls.of_M TYok (qs := [cB true]) [.tmp 6] 285 Tryd.func5 (by kernel_rfl) rfl rfl rfl fun G hG => ?_
    refine W.initA (hw := ?_)
    repeat' (first
      | (exfalso; first | exact hw' (by assumption) | exact hw2 (by assumption))
      | (refine W.purgeR [(6, [3, 4, 5, 7, 8, 9, 10, 11]), (9, [3, 4, 5, 7, 8, 9, 10, 11, 12, 13, 14, 15, 16, 17]), (11, [3, 4, 5, 7, 12, 14, 16]), (14, [3, 4, 5, 7, 9, 11, 12, 13, 14, 16, 18, 19, 20]), (16, [3, 4, 5, 7, 9, 11, 12, 13, 14, 15, 16, 17, 18, 19]), (18, [3, 4, 5, 7, 12, 18]), (21, [3, 4, 7, 9, 11, 13, 21, 23]), (23, [3, 7, 9, 11, 13, 15, 17, 21, 23, 25]), (25, [3, 7]), (26, [3, 7, 9, 26]), (27, [3, 7, 9, 11, 26, 27]), (28, [3, 7, 9, 11, 13, 26, 27, 28])] rfl (by repeat (first | exact PN.nil | apply PN.po rfl | (apply PN.pa; exact rfl; (repeat (first | (apply NR.cons; exact rfl) | exact NR.nil rfl))) | apply PN.a rfl | apply PN.s rfl | apply PN.u rfl | apply PN.m rfl | apply PN.k rfl | apply PN.i rfl | apply PN.skip)) (by repeat (first | exact PB.nil | (apply PB.one; exact rfl; (focus (first | (dsimp only; done) | (dsimp only; exact rfl) | exact rfl)); (focus (first | (dsimp only; done) | (dsimp only; exact rfl) | exact rfl)); exact rfl; (repeat (first | (apply NR.cons; exact rfl) | exact NR.nil rfl)))  | apply PB.cons rfl)) ?_)
      | ((first | apply U_ | (apply Ug_; exact rfl; exact rfl) | (apply Ugq_; exact rfl; exact rfl)); (first
    | exact QX.Move TYok
    | exact QX.Asg TYok
    | exact QX.Ld TYok
    | exact QX.Bin TYok
    | exact QX.Pick TYok
    | exact QX.Un TYok
    | exact QX.Ext TYok
    | exact QX.Build TYok
    | (apply Q_callGd hG (h0); exact EvD.auto)
    | (apply Q_callG hG (h0); exact EvL.auto; exact rfl)
    | (apply Q_calld (f1); exact EvD.auto)
    | (apply Q_calld (f2); exact EvD.auto)
    | (apply Q_calld (f3); exact EvD.auto)
    | (apply Q_calld (r1); exact EvD.auto)
    | (apply Q_calld (r2); exact EvD.auto)
    | (apply Q_calld (r3); exact EvD.auto)); exact rfl)
      | refine SX.Alloc TYok (h := ?_)
      | refine SX.Store TYok (h := ?_)
      | refine SX.Box TYok (h := ?_)
      | apply RG.nil
      | apply Lex.nil
      | apply Then.n
      | apply Then.r
      | apply Then.x
      | apply InBlock.n
      | apply InBlock.r
      | apply InBlock.hit
      | (apply InBlock.miss; exact rfl)
      | apply W.seq
      | apply W.region
      | apply W.block
      | apply W.skip
      | apply W.ret
      | apply W.exit
      | (apply S_isnil TYok; exact rfl; exact rfl; exact rfl; exact Ev.auto; intro bn hnil)
      | (apply RG.gT; exact rfl; exact rfl; (first | assumption | decide))
      | (apply RG.gF; exact rfl; exact rfl; (first | assumption | decide | (rw [ne_eq, Bool.not_eq_true]; assumption) | (rw [ne_eq, Bool.not_eq_false]; assumption)); exact rfl)
      | (refine W.drawM (id := 25) [([false, false, false, false, false, false, false, false, false], [(0, 1), (1, 2), (6, 3)]), ([true, false, false, false, false, false, false, false, false], [(1, 4), (6, 5)]), ([false, true, false, false, false, false, false, false, false], [(0, 4), (6, 6)]), ([false, false, false, false, false, false, true, false, false], [(0, 5), (1, 6)]), ([true, true, false, false, false, false, false, false, false], [(2, 7), (6, 8)]), ([true, false, false, false, false, false, true, false, false], [(1, 8)]), ([false, true, false, false, false, false, true, false, false], [(0, 8)]), ([true, true, true, false, false, false, false, false, false], [(3, 9), (6, 10)]), ([true, true, false, false, false, false, true, false, false], [(2, 10)]), ([true, true, true, true, false, false, false, false, false], [(4, 11), (5, 12), (6, 13)]), ([true, true, true, false, false, false, true, false, false], [(3, 13)]), ([true, true, true, true, true, false, false, false, false], [(5, 14), (6, 15)]), ([true, true, true, true, false, true, false, false, false], [(4, 14), (6, 16)]), ([true, true, true, true, false, false, true, false, false], [(4, 15), (5, 16)]), ([true, true, true, true, true, true, false, false, false], [(6, 17)]), ([true, true, true, true, true, false, true, false, false], [(5, 17), (7, 18)]), ([true, true, true, true, false, true, true, false, false], [(4, 17)]), ([true, true, true, true, true, true, true, false, false], [(7, 19)]), ([true, true, true, true, true, false, true, true, false], [(5, 19)]), ([true, true, true, true, true, true, true, true, false], [(8, 20)]), ([true, true, true, true, true, true, true, true, true], [])] [?_, ?_, ?_, ?_, ?_, ?_, ?_, ?_, ?_, ?_, ?_, ?_, ?_, ?_, ?_, ?_, ?_, ?_, ?_, ?_, ?_] mixed (by kernel_rfl) rfl rfl rfl rfl ?_ ?_ rfl ?_; rotate_left 21)
      | exact MN.nil
      | (refine MN.cons ?_ ?_)
      | exact MG.nil
      | (refine MG.cons rfl rfl ?_ ?_)
      | exact Le.refl
      | (refine Le.st rfl (by repeat (first | exact SubEK.nil | refine SubEK.skip rfl ?_ | refine SubEK.one rfl (by first | exact trivial | exact rfl) ?_)) (by repeat (first | exact SubBK.nil | refine SubBK.skip rfl ?_ | refine SubBK.one rfl ?_)))
      | (refine W.drawM (id := 26) [([false, false, false, false, false, false, false, false, false], [(0, 1), (1, 2), (6, 3)]), ([true, false, false, false, false, false, false, false, false], [(1, 4), (6, 5)]), ([false, true, false, false, false, false, false, false, false], [(0, 4), (6, 6)]), ([false, false, false, false, false, false, true, false, false], [(0, 5), (1, 6)]), ([true, true, false, false, false, false, false, false, false], [(2, 7), (6, 8)]), ([true, false, false, false, false, false, true, false, false], [(1, 8)]), ([false, true, false, false, false, false, true, false, false], [(0, 8)]), ([true, true, true, false, false, false, false, false, false], [(3, 9), (6, 10)]), ([true, true, false, false, false, false, true, false, false], [(2, 10)]), ([true, true, true, true, false, false, false, false, false], [(4, 11), (5, 12), (6, 13)]), ([true, true, true, false, false, false, true, false, false], [(3, 13)]), ([true, true, true, true, true, false, false, false, false], [(5, 14), (6, 15)]), ([true, true, true, true, false, true, false, false, false], [(4, 14), (6, 16)]), ([true, true, true, true, false, false, true, false, false], [(4, 15), (5, 16)]), ([true, true, true, true, true, true, false, false, false], [(6, 17)]), ([true, true, true, true, true, false, true, false, false], [(5, 17), (7, 18)]), ([true, true, true, true, false, true, true, false, false], [(4, 17)]), ([true, true, true, true, true, true, true, false, false], [(7, 19)]), ([true, true, true, true, true, false, true, true, false], [(5, 19)]), ([true, true, true, true, true, true, true, true, false], [(8, 20)]), ([true, true, true, true, true, true, true, true, true], [])] [?_, ?_, ?_, ?_, ?_, ?_, ?_, ?_, ?_, ?_, ?_, ?_, ?_, ?_, ?_, ?_, ?_, ?_, ?_, ?_, ?_] mixed (by kernel_rfl) rfl rfl rfl rfl ?_ ?_ rfl ?_; rotate_left 21)
      | exact MN.nil
      | (refine MN.cons ?_ ?_)
      | exact MG.nil
      | (refine MG.cons rfl rfl ?_ ?_)
      | exact Le.refl
      | (refine Le.st rfl (by repeat (first | exact SubEK.nil | refine SubEK.skip rfl ?_ | refine SubEK.one rfl (by first | exact trivial | exact rfl) ?_)) (by repeat (first | exact SubBK.nil | refine SubBK.skip rfl ?_ | refine SubBK.one rfl ?_)))
      | (refine W.drawM (id := 27) [([false, false, false, false, false, false, false, false, false], [(0, 1), (1, 2), (6, 3)]), ([true, false, false, false, false, false, false, false, false], [(1, 4), (6, 5)]), ([false, true, false, false, false, false, false, false, false], [(0, 4), (6, 6)]), ([false, false, false, false, false, false, true, false, false], [(0, 5), (1, 6)]), ([true, true, false, false, false, false, false, false, false], [(2, 7), (6, 8)]), ([true, false, false, false, false, false, true, false, false], [(1, 8)]), ([false, true, false, false, false, false, true, false, false], [(0, 8)]), ([true, true, true, false, false, false, false, false, false], [(3, 9), (6, 10)]), ([true, true, false, false, false, false, true, false, false], [(2, 10)]), ([true, true, true, true, false, false, false, false, false], [(4, 11), (5, 12), (6, 13)]), ([true, true, true, false, false, false, true, false, false], [(3, 13)]), ([true, true, true, true, true, false, false, false, false], [(5, 14), (6, 15)]), ([true, true, true, true, false, true, false, false, false], [(4, 14), (6, 16)]), ([true, true, true, true, false, false, true, false, false], [(4, 15), (5, 16)]), ([true, true, true, true, true, true, false, false, false], [(6, 17)]), ([true, true, true, true, true, false, true, false, false], [(5, 17), (7, 18)]), ([true, true, true, true, false, true, true, false, false], [(4, 17)]), ([true, true, true, true, true, true, true, false, false], [(7, 19)]), ([true, true, true, true, true, false, true, true, false], [(5, 19)]), ([true, true, true, true, true, true, true, true, false], [(8, 20)]), ([true, true, true, true, true, true, true, true, true], [])] [?_, ?_, ?_, ?_, ?_, ?_, ?_, ?_, ?_, ?_, ?_, ?_, ?_, ?_, ?_, ?_, ?_, ?_, ?_, ?_, ?_] mixed (by kernel_rfl) rfl rfl rfl rfl ?_ ?_ rfl ?_; rotate_left 21)
      | exact MN.nil
      | (refine MN.cons ?_ ?_)
      | exact MG.nil
      | (refine MG.cons rfl rfl ?_ ?_)
      | exact Le.refl
      | (refine Le.st rfl (by repeat (first | exact SubEK.nil | refine SubEK.skip rfl ?_ | refine SubEK.one rfl (by first | exact trivial | exact rfl) ?_)) (by repeat (first | exact SubBK.nil | refine SubBK.skip rfl ?_ | refine SubBK.one rfl ?_)))
      | (refine W.condA (ht := fun hb => ?_) (hf := fun hb => ?_) <;> (try simp at hb) <;> (try (exfalso; omega))))
    all_goals exact FinM.ret ResM.auto
  obtain ⟨⟨⟨w1, w2⟩, w3⟩, q1, q2, q3⟩ := hw
  rw [q1] at r1
  rw [q2] at r2
  rw [q3] at r3
  obtain ⟨x, ox, rfl, rfl⟩ := right_num q1
  obtain ⟨y, oy, rfl, rfl⟩ := right_num q2
  obtain ⟨z, oz, rfl, rfl⟩ := right_num q3
  have b1 := lt40 w1
  have b2 := lt40 w2
  have b3 := lt40 w3
  have h20 : pw 20 = 1048576 * pw 19 := by rw [pw_succ]
  have h21 : pw 21 = 1048576 * pw 20 := by rw [pw_succ]
  have h22 : pw 22 = 1048576 * pw 21 := by rw [pw_succ]
  have p19 := pw_pos 19
  have h38 := pw_lt (show 38 < 39 by omega)
  have h39e : pw 39 = 1048576 * pw 38 := by rw [pw_succ]
  have h39 := pw_lt (show 39 < 57 by omega)
  have h57 := pw_lt (show 57 < 60 by omega)
  have h22' := pw_lt (show 22 < 60 by omega)
  have hxy := mul_lt (k := 38) rfl b1 b2
  have hyz := mul_lt (k := 38) rfl b2 b3
  have hxz := mul_lt (k := 38) rfl b1 b3
  have hxyz := mul_lt (k := 57) rfl hxy b3
  have hxyz' := mul_lt (k := 57) rfl b1 hyz
  have hs := mul_lt (n := 20) (k := 39) (y := y + z) rfl b1 (by omega)
  have ka1 : okZ (x + y) := okZ.of (by omega)
  have a1 := addZ_ok x y ox oy
  rw [(full_yes ka1).1, (full_yes ka1).2] at a1
  have ka2 : okZ (y + x) := okZ.of (by omega)
  have a2 := addZ_ok y x oy ox
  rw [(full_yes ka2).1, (full_yes ka2).2] at a2
  have ka3 : okZ (y + z) := okZ.of (by omega)
  have a3 := addZ_ok y z oy oz
  rw [(full_yes ka3).1, (full_yes ka3).2] at a3
  have ka4 : okZ (x + y + z) := okZ.of (by omega)
  have a4 := addZ_ok (x + y) z ka1 oz
  rw [(full_yes ka4).1, (full_yes ka4).2] at a4
  have ka5 : okZ (x + (y + z)) := okZ.of (by omega)
  have a5 := addZ_ok x (y + z) ox ka3
  rw [(full_yes ka5).1, (full_yes ka5).2] at a5
  have kp1 : okZ (x * y) := okZ.of (by omega)
  have p1 := mulZ_ok x y ox oy
  rw [(full_yes kp1).1, (full_yes kp1).2] at p1
  have kc : y * x = x * y := Int.mul_comm y x
  have kp2 : okZ (y * x) := okZ.of (by omega)
  have p2 := mulZ_ok y x oy ox
  rw [(full_yes kp2).1, (full_yes kp2).2] at p2
  have kp3 : okZ (y * z) := okZ.of (by omega)
  have p3 := mulZ_ok y z oy oz
  rw [(full_yes kp3).1, (full_yes kp3).2] at p3
  have kp4 : okZ (x * y * z) := okZ.of (by omega)
  have p4 := mulZ_ok (x * y) z kp1 oz
  rw [(full_yes kp4).1, (full_yes kp4).2] at p4
  have kp5 : okZ (x * (y * z)) := okZ.of (by omega)
  have p5 := mulZ_ok x (y * z) ox kp3
  rw [(full_yes kp5).1, (full_yes kp5).2] at p5
  have kp6 : okZ (x * (y + z)) := okZ.of (by omega)
  have p6 := mulZ_ok x (y + z) ox ka3
  rw [(full_yes kp6).1, (full_yes kp6).2] at p6
  have kp7 : okZ (x * z) := okZ.of (by omega)
  have p7 := mulZ_ok x z ox oz
  rw [(full_yes kp7).1, (full_yes kp7).2] at p7
  have ka6 : okZ (x * y + x * z) := okZ.of (by omega)
  have a6 := addZ_ok (x * y) (x * z) kp1 kp7
  rw [(full_yes ka6).1, (full_yes ka6).2] at a6
  have kd1 : okZ (x - y) := okZ.of (by omega)
  have d1 := subZ_ok x y ox oy
  rw [(full_yes kd1).1, (full_yes kd1).2] at d1
  have ka7 : okZ (x - y + y) := okZ.of (by omega)
  have a7 := addZ_ok (x - y) y kd1 oy
  rw [(full_yes ka7).1, (full_yes ka7).2] at a7
  have z0 := ofZ_ok 0 (by unfold i64B; omega)
  have z1 := ofZ_ok 1 (by unfold i64B; omega)
  have k1 : okZ 1 := i64_ok (by unfold i64B; omega)
  have ka8 : okZ (x + 0) := okZ.of (by omega)
  have a8 := addZ_ok x 0 ox okZ.zero
  rw [(full_yes ka8).1, (full_yes ka8).2] at a8
  have kp8 : okZ (x * 1) := okZ.of (by omega)
  have p8 := mulZ_ok x 1 ox k1
  rw [(full_yes kp8).1, (full_yes kp8).2] at p8
  have kp9 : okZ (x * 0) := okZ.of (by omega)
  have p9 := mulZ_ok x 0 ox okZ.zero
  rw [(full_yes kp9).1, (full_yes kp9).2] at p9
  have s1 := rsameZ_ok (x + y) (y + x) ka1 ka2
  rw [decide_eq_true (show x + y = y + x from Int.add_comm ..)] at s1
  have s2 := rsameZ_ok (x + y + z) (x + (y + z)) ka4 ka5
  rw [decide_eq_true (show x + y + z = x + (y + z) from Int.add_assoc ..)] at s2
  have s3 := rsameZ_ok (x * y) (y * x) kp1 kp2
  rw [decide_eq_true (show x * y = y * x from Int.mul_comm ..)] at s3
  have s4 := rsameZ_ok (x * y * z) (x * (y * z)) kp4 kp5
  rw [decide_eq_true (show x * y * z = x * (y * z) from Int.mul_assoc ..)] at s4
  have s5 := rsameZ_ok (x * (y + z)) (x * y + x * z) kp6 ka6
  rw [decide_eq_true (show x * (y + z) = x * y + x * z from Int.mul_add ..)] at s5
  have s6 := rsameZ_ok (x - y + y) (x) ka7 ox
  rw [decide_eq_true (show x - y + y = x from by omega)] at s6
  have s7 := rsameZ_ok (x + 0) (x) ka8 ox
  rw [decide_eq_true (show x + 0 = x from by omega)] at s7
  have s8 := rsameZ_ok (x * 1) (x) kp8 ox
  rw [decide_eq_true (show x * 1 = x from by omega)] at s8
  have s9 := rsameZ_ok (x * 0) (0) kp9 okZ.zero
  rw [decide_eq_true (show x * 0 = 0 from by omega)] at s9
  refine GCalls.of_M TYok (qs := [cB true]) [.tmp 6] 285 Tryd.func5 (by kernel_rfl) rfl rfl rfl fun G hG => ?_
  refine W.initA (hw := ?_)
  repeat' (first
    | (refine W.purgeR [(6, [3, 4, 5, 7, 8, 9, 10, 11]), (9, [3, 4, 5, 7, 8, 9, 10, 11, 12, 13, 14, 15, 16, 17]), (11, [3, 4, 5, 7, 12, 14, 16]), (14, [3, 4, 5, 7, 9, 11, 12, 13, 14, 16, 18, 19, 20]), (16, [3, 4, 5, 7, 9, 11, 12, 13, 14, 15, 16, 17, 18, 19]), (18, [3, 4, 5, 7, 12, 18]), (21, [3, 4, 7, 9, 11, 13, 21, 23]), (23, [3, 7, 9, 11, 13, 15, 17, 21, 23, 25]), (25, [3, 7]), (26, [3, 7, 9, 26]), (27, [3, 7, 9, 11, 26, 27]), (28, [3, 7, 9, 11, 13, 26, 27, 28])] rfl (by repeat (first | exact PN.nil | apply PN.po rfl | (apply PN.pa; exact rfl; (repeat (first | (apply NR.cons; exact rfl) | exact NR.nil rfl))) | apply PN.a rfl | apply PN.s rfl | apply PN.u rfl | apply PN.m rfl | apply PN.k rfl | apply PN.i rfl | apply PN.skip)) (by repeat (first | exact PB.nil | (apply PB.one; exact rfl; (focus (first | (dsimp only; done) | (dsimp only; exact rfl) | exact rfl)); (focus (first | (dsimp only; done) | (dsimp only; exact rfl) | exact rfl)); exact rfl; (repeat (first | (apply NR.cons; exact rfl) | exact NR.nil rfl)))  | apply PB.cons rfl)) ?_)
    | ((first | apply U_ | (apply Ug_; exact rfl; exact rfl) | (apply Ugq_; exact rfl; exact rfl)); (first
    | exact QX.Move TYok
    | exact QX.Asg TYok
    | exact QX.Ld TYok
    | exact QX.Bin TYok
    | exact QX.Pick TYok
    | exact QX.Un TYok
    | exact QX.Ext TYok
    | exact QX.Build TYok
    | (apply Q_callGd hG (h0); exact EvD.auto)
    | (apply Q_callG hG (h0); exact EvL.auto; exact rfl)
    | (apply Q_calld (f1); exact EvD.auto)
    | (apply Q_calld (f2); exact EvD.auto)
    | (apply Q_calld (f3); exact EvD.auto)
    | (apply Q_calld (r1); exact EvD.auto)
    | (apply Q_calld (r2); exact EvD.auto)
    | (apply Q_calld (r3); exact EvD.auto)
    | (apply Q_calld (a1); exact EvD.auto)
    | (apply Q_calld (a2); exact EvD.auto)
    | (apply Q_calld (a3); exact EvD.auto)
    | (apply Q_calld (a4); exact EvD.auto)
    | (apply Q_calld (a5); exact EvD.auto)
    | (apply Q_calld (p1); exact EvD.auto)
    | (apply Q_calld (p2); exact EvD.auto)
    | (apply Q_calld (p3); exact EvD.auto)
    | (apply Q_calld (p4); exact EvD.auto)
    | (apply Q_calld (p5); exact EvD.auto)
    | (apply Q_calld (p6); exact EvD.auto)
    | (apply Q_calld (p7); exact EvD.auto)
    | (apply Q_calld (a6); exact EvD.auto)
    | (apply Q_calld (d1); exact EvD.auto)
    | (apply Q_calld (a7); exact EvD.auto)
    | (apply Q_calld (a8); exact EvD.auto)
    | (apply Q_calld (p8); exact EvD.auto)
    | (apply Q_calld (p9); exact EvD.auto)
    | (apply Q_calld (z0); exact EvD.auto)
    | (apply Q_calld (z1); exact EvD.auto)
    | (apply Q_calld (s1); exact EvD.auto)
    | (apply Q_calld (s2); exact EvD.auto)
    | (apply Q_calld (s3); exact EvD.auto)
    | (apply Q_calld (s4); exact EvD.auto)
    | (apply Q_calld (s5); exact EvD.auto)
    | (apply Q_calld (s6); exact EvD.auto)
    | (apply Q_calld (s7); exact EvD.auto)
    | (apply Q_calld (s8); exact EvD.auto)
    | (apply Q_calld (s9); exact EvD.cons Ev.auto PSub.rfl' (EvD.cons Ev.auto zeroSubZ EvD.nil))); exact rfl)
    | refine SX.Alloc TYok (h := ?_)
    | refine SX.Store TYok (h := ?_)
    | refine SX.Box TYok (h := ?_)
    | apply RG.nil
    | apply Lex.nil
    | apply Then.n
    | apply Then.r
    | apply Then.x
    | apply InBlock.n
    | apply InBlock.r
    | apply InBlock.hit
    | (apply InBlock.miss; exact rfl)
    | apply W.seq
    | apply W.region
    | apply W.block
    | apply W.skip
    | apply W.ret
    | apply W.exit
    | (apply S_isnil TYok; exact rfl; exact rfl; exact rfl; exact Ev.auto; intro bn hnil)
    | (apply RG.gT; exact rfl; exact rfl; (first | assumption | decide))
    | (apply RG.gF; exact rfl; exact rfl; (first | assumption | decide | (rw [ne_eq, Bool.not_eq_true]; assumption) | (rw [ne_eq, Bool.not_eq_false]; assumption)); exact rfl)
    | (refine W.drawM (id := 25) [([false, false, false, false, false, false, false, false, false], [(0, 1), (1, 2), (6, 3)]), ([true, false, false, false, false, false, false, false, false], [(1, 4), (6, 5)]), ([false, true, false, false, false, false, false, false, false], [(0, 4), (6, 6)]), ([false, false, false, false, false, false, true, false, false], [(0, 5), (1, 6)]), ([true, true, false, false, false, false, false, false, false], [(2, 7), (6, 8)]), ([true, false, false, false, false, false, true, false, false], [(1, 8)]), ([false, true, false, false, false, false, true, false, false], [(0, 8)]), ([true, true, true, false, false, false, false, false, false], [(3, 9), (6, 10)]), ([true, true, false, false, false, false, true, false, false], [(2, 10)]), ([true, true, true, true, false, false, false, false, false], [(4, 11), (5, 12), (6, 13)]), ([true, true, true, false, false, false, true, false, false], [(3, 13)]), ([true, true, true, true, true, false, false, false, false], [(5, 14), (6, 15)]), ([true, true, true, true, false, true, false, false, false], [(4, 14), (6, 16)]), ([true, true, true, true, false, false, true, false, false], [(4, 15), (5, 16)]), ([true, true, true, true, true, true, false, false, false], [(6, 17)]), ([true, true, true, true, true, false, true, false, false], [(5, 17), (7, 18)]), ([true, true, true, true, false, true, true, false, false], [(4, 17)]), ([true, true, true, true, true, true, true, false, false], [(7, 19)]), ([true, true, true, true, true, false, true, true, false], [(5, 19)]), ([true, true, true, true, true, true, true, true, false], [(8, 20)]), ([true, true, true, true, true, true, true, true, true], [])] [?_, ?_, ?_, ?_, ?_, ?_, ?_, ?_, ?_, ?_, ?_, ?_, ?_, ?_, ?_, ?_, ?_, ?_, ?_, ?_, ?_] mixed (by kernel_rfl) rfl rfl rfl rfl ?_ ?_ rfl ?_; rotate_left 21)
    | exact MN.nil
    | (refine MN.cons ?_ ?_)
    | exact MG.nil
    | (refine MG.cons rfl rfl ?_ ?_)
    | exact Le.refl
    | (refine Le.st rfl (by repeat (first | exact SubEK.nil | refine SubEK.skip rfl ?_ | refine SubEK.one rfl (by first | exact trivial | exact rfl) ?_)) (by repeat (first | exact SubBK.nil | refine SubBK.skip rfl ?_ | refine SubBK.one rfl ?_)))
    | (refine W.drawM (id := 26) [([false, false, false, false, false, false, false, false, false], [(0, 1), (1, 2), (6, 3)]), ([true, false, false, false, false, false, false, false, false], [(1, 4), (6, 5)]), ([false, true, false, false, false, false, false, false, false], [(0, 4), (6, 6)]), ([false, false, false, false, false, false, true, false, false], [(0, 5), (1, 6)]), ([true, true, false, false, false, false, false, false, false], [(2, 7), (6, 8)]), ([true, false, false, false, false, false, true, false, false], [(1, 8)]), ([false, true, false, false, false, false, true, false, false], [(0, 8)]), ([true, true, true, false, false, false, false, false, false], [(3, 9), (6, 10)]), ([true, true, false, false, false, false, true, false, false], [(2, 10)]), ([true, true, true, true, false, false, false, false, false], [(4, 11), (5, 12), (6, 13)]), ([true, true, true, false, false, false, true, false, false], [(3, 13)]), ([true, true, true, true, true, false, false, false, false], [(5, 14), (6, 15)]), ([true, true, true, true, false, true, false, false, false], [(4, 14), (6, 16)]), ([true, true, true, true, false, false, true, false, false], [(4, 15), (5, 16)]), ([true, true, true, true, true, true, false, false, false], [(6, 17)]), ([true, true, true, true, true, false, true, false, false], [(5, 17), (7, 18)]), ([true, true, true, true, false, true, true, false, false], [(4, 17)]), ([true, true, true, true, true, true, true, false, false], [(7, 19)]), ([true, true, true, true, true, false, true, true, false], [(5, 19)]), ([true, true, true, true, true, true, true, true, false], [(8, 20)]), ([true, true, true, true, true, true, true, true, true], [])] [?_, ?_, ?_, ?_, ?_, ?_, ?_, ?_, ?_, ?_, ?_, ?_, ?_, ?_, ?_, ?_, ?_, ?_, ?_, ?_, ?_] mixed (by kernel_rfl) rfl rfl rfl rfl ?_ ?_ rfl ?_; rotate_left 21)
    | exact MN.nil
    | (refine MN.cons ?_ ?_)
    | exact MG.nil
    | (refine MG.cons rfl rfl ?_ ?_)
    | exact Le.refl
    | (refine Le.st rfl (by repeat (first | exact SubEK.nil | refine SubEK.skip rfl ?_ | refine SubEK.one rfl (by first | exact trivial | exact rfl) ?_)) (by repeat (first | exact SubBK.nil | refine SubBK.skip rfl ?_ | refine SubBK.one rfl ?_)))
    | (refine W.drawM (id := 27) [([false, false, false, false, false, false, false, false, false], [(0, 1), (1, 2), (6, 3)]), ([true, false, false, false, false, false, false, false, false], [(1, 4), (6, 5)]), ([false, true, false, false, false, false, false, false, false], [(0, 4), (6, 6)]), ([false, false, false, false, false, false, true, false, false], [(0, 5), (1, 6)]), ([true, true, false, false, false, false, false, false, false], [(2, 7), (6, 8)]), ([true, false, false, false, false, false, true, false, false], [(1, 8)]), ([false, true, false, false, false, false, true, false, false], [(0, 8)]), ([true, true, true, false, false, false, false, false, false], [(3, 9), (6, 10)]), ([true, true, false, false, false, false, true, false, false], [(2, 10)]), ([true, true, true, true, false, false, false, false, false], [(4, 11), (5, 12), (6, 13)]), ([true, true, true, false, false, false, true, false, false], [(3, 13)]), ([true, true, true, true, true, false, false, false, false], [(5, 14), (6, 15)]), ([true, true, true, true, false, true, false, false, false], [(4, 14), (6, 16)]), ([true, true, true, true, false, false, true, false, false], [(4, 15), (5, 16)]), ([true, true, true, true, true, true, false, false, false], [(6, 17)]), ([true, true, true, true, true, false, true, false, false], [(5, 17), (7, 18)]), ([true, true, true, true, false, true, true, false, false], [(4, 17)]), ([true, true, true, true, true, true, true, false, false], [(7, 19)]), ([true, true, true, true, true, false, true, true, false], [(5, 19)]), ([true, true, true, true, true, true, true, true, false], [(8, 20)]), ([true, true, true, true, true, true, true, true, true], [])] [?_, ?_, ?_, ?_, ?_, ?_, ?_, ?_, ?_, ?_, ?_, ?_, ?_, ?_, ?_, ?_, ?_, ?_, ?_, ?_, ?_] mixed (by kernel_rfl) rfl rfl rfl rfl ?_ ?_ rfl ?_; rotate_left 21)
    | exact MN.nil
    | (refine MN.cons ?_ ?_)
    | exact MG.nil
    | (refine MG.cons rfl rfl ?_ ?_)
    | exact Le.refl
    | (refine Le.st rfl (by repeat (first | exact SubEK.nil | refine SubEK.skip rfl ?_ | refine SubEK.one rfl (by first | exact trivial | exact rfl) ?_)) (by repeat (first | exact SubBK.nil | refine SubBK.skip rfl ?_ | refine SubBK.one rfl ?_)))
    | (refine W.condA (ht := fun hb => ?_) (hf := fun hb => ?_) <;> (try simp at hb) <;> (try (exfalso; omega))))
  all_goals first
      | exact FinM.ret ResM.auto
      | (exfalso; omega)
      | exact FinM.ret (ResM.tmp rfl rfl (PSub.of_eq (congrArg (fun b => PV.one (Cell.bool b)) (by simp only [Bool.and_eq_true, Bool.or_eq_true, decide_eq_true_iff, true_and]; omega))) ResM.nil)
      | trace_state
end Go.Proofs.YtldgkgfkdipdeaaDoor
