/-
  Big integers: the law of the greatest common divisor.
-/
import Derived.Test.YtldgkgfkdipdeaaDoorWalk12
import Derived.Test.YtldgkgfkdipdeaaDoorLfPurge
import Derived.Test.YtldgkgfkdipdeaaDoorLfDrawM
set_option linter.unusedVariables false
set_option linter.unusedSimpArgs false
set_option maxHeartbeats 8000000
namespace Go.Proofs.YtldgkgfkdipdeaaDoor
open Lf Go
attribute [local irreducible] PureOp EffOp Ev RG W Then InBlock Lf.Fin nth App InitE Pick SubE SubF SubG EvL EvD EvP EvR ResL Lf.Lex SubR SubBR RA RAll EvC FinO FinM ResM FinB ResD FinS val pw digs trimL

theorem gcd_rem (x y : Int) : gcdZ x (remZ y x) = gcdZ x y := by
  unfold gcdZ remZ
  congr 1
  apply Nat.dvd_antisymm
  · refine Int.dvd_gcd (Int.gcd_dvd_left ..) ?_
    have h1 : (Int.gcd x (y - x * quoZ y x) : Int) ∣ x := Int.gcd_dvd_left ..
    have h2 : (Int.gcd x (y - x * quoZ y x) : Int) ∣ y - x * quoZ y x := Int.gcd_dvd_right ..
    have := Int.dvd_add h2 (show _ ∣ x * quoZ y x from Int.dvd_mul_of_dvd_left h1)
    rwa [Int.sub_add_cancel] at this
  · refine Int.dvd_gcd (Int.gcd_dvd_left ..) ?_
    exact Int.dvd_sub (Int.gcd_dvd_right ..) (Int.dvd_mul_of_dvd_left (Int.gcd_dvd_left ..))
theorem rem_dvd {x g : Int} (h : g ∣ x) (hg : g ≠ 0) : remZ x g = 0 := by
  obtain ⟨k, rfl⟩ := h
  exact (quo_uniq (q := k) (r := 0) hg (by omega) (fun h => ⟨by omega, h⟩) (fun h => ⟨h, by omega⟩)).2.symm
theorem gcd_nn (x y : Int) : 0 ≤ gcdZ x y := Int.natCast_nonneg _
theorem gcd_l (x y : Int) : gcdZ x y ∣ x := Int.gcd_dvd_left ..
theorem gcd_r (x y : Int) : gcdZ x y ∣ y := Int.gcd_dvd_right ..
theorem gcd_neg_swap (x y : Int) : gcdZ (-y) x = gcdZ x y := by unfold gcdZ; rw [Int.neg_gcd, Int.gcd_comm]
theorem gcd_zero (x y : Int) : gcdZ x y = 0 ↔ x = 0 ∧ y = 0 := by unfold gcdZ; rw [← Int.gcd_eq_zero_iff]; omega
theorem gcd_mulr (x y z : Int) : gcdZ (x * z) (y * z) = gcdZ x y * mag z := by
  unfold gcdZ
  rw [Int.gcd_mul_right, Int.natCast_mul]
  congr 1
  have := sgn_cases z
  omega
theorem gcd_le {x y P : Int} (hx : -P < x ∧ x < P) (hy : -P < y ∧ y < P) (hP : 0 < P) : gcdZ x y < P := by
  by_cases h : x = 0
  · subst h
    unfold gcdZ
    rw [Int.gcd_zero_left]
    omega
  · have := Int.gcd_le_natAbs_left y h
    unfold gcdZ
    omega
theorem mul_lt {x y : Int} {m n k : Nat} (hk : m + n = k) (hx : -pw m < x ∧ x < pw m) (hy : -pw n < y ∧ y < pw n) : -pw k < x * y ∧ x * y < pw k := by
  subst hk
  have h1 := pw_pos m
  have h2 := pw_pos n
  have h : (x * y).natAbs < (pw (m + n)).natAbs := by
    rw [pw_add, Int.natAbs_mul, Int.natAbs_mul]
    exact Nat.mul_lt_mul'' (by omega) (by omega)
  have := pw_pos (m + n)
  omega
theorem sgn0 : sgn 0 = 0 := rfl
attribute [local irreducible] sgn mag gcdZ quoZ remZ txtZ readF fullZ fullE
set_option maxRecDepth 20000 in
theorem gcds_ok (s s' s'' : Int) (l l' l'' : List Int) (hl : l.length ≤ 9223372036854775807) (hl' : l'.length ≤ 9223372036854775807) (hl'' : l''.length ≤ 9223372036854775807) : GCalls Tryd.prog 2 powC 3 [aB s l, aB s' l', aB s'' l''] (.pv (cB true)) := by
  have h0 := small_ok
  have f1 := fewB_ok s l 12 hl
  have f2 := fewB_ok s' l' 12 hl'
  have f3 := fewB_ok s'' l'' 4 hl''
  have r1 := rightL_ok s l hl
  have r2 := rightL_ok s' l' hl'
  have r3 := rightL_ok s'' l'' hl''
  by_cases hw : ((l.length ≤ 12 ∧ l'.length ≤ 12) ∧ l''.length ≤ 4) ∧ rightB s l = true ∧ rightB s' l' = true ∧ rightB s'' l'' = true
  case neg =>
    generalize rightB s l = b1 at r1 hw
    generalize rightB s' l' = b2 at r2 hw
    generalize rightB s'' l'' = b3 at r3 hw
    have hw' : (((((l.length ≤ 12) ∧ l'.length ≤ 12) ∧ l''.length ≤ 4) ∧ b1 = true) ∧ b2 = true) ∧ b3 = true → False := fun ⟨⟨⟨q, a⟩, b⟩, c⟩ => hw ⟨q, a, b, c⟩
    have hw2 : ((((((l.length : Int) ≤ 12) ∧ (l'.length : Int) ≤ 12) ∧ (l''.length : Int) ≤ 4) ∧ b1 = true) ∧ b2 = true) ∧ b3 = true → False := fun ⟨⟨⟨⟨⟨p, q⟩, r⟩, a⟩, b⟩, c⟩ => hw ⟨⟨⟨by omega, by omega⟩, by omega⟩, a, b, c⟩
    refine GCalls.of_M TYok (qs := [cB true]) [.tmp 6] 217 Tryd.func3 (by kernel_rfl) rfl rfl rfl fun G hG => ?_
    refine W.initA (hw := ?_)
    repeat' (first
      | (exfalso; first | exact hw' (by assumption) | exact hw2 (by assumption))
      | (refine W.purgeR [(5, [3, 4, 5, 7, 8, 9]), (6, [3, 4, 5, 7, 8, 9, 10, 11]), (8, [3, 4, 5, 7, 8]), (13, [3, 4, 5, 7, 8]), (16, [3, 4, 5, 7, 8, 20, 21, 22]), (18, [3, 4, 5, 7, 8]), (22, [5, 7, 24, 26, 27, 28, 29, 30])] rfl (by repeat (first | exact PN.nil | apply PN.po rfl | (apply PN.pa; exact rfl; (repeat (first | (apply NR.cons; exact rfl) | exact NR.nil rfl))) | apply PN.a rfl | apply PN.s rfl | apply PN.u rfl | apply PN.m rfl | apply PN.k rfl | apply PN.i rfl | apply PN.skip)) (by repeat (first | exact PB.nil | (apply PB.one; exact rfl; (focus (first | (dsimp only; done) | (dsimp only; exact rfl) | exact rfl)); (focus (first | (dsimp only; done) | (dsimp only; exact rfl) | exact rfl)); exact rfl; (repeat (first | (apply NR.cons; exact rfl) | exact NR.nil rfl))) | apply PB.cons rfl)) ?_)
      | ((first | apply U_ | (apply Ug_; exact rfl; exact rfl) | (apply Ugq_; exact rfl; exact rfl)); (first
    | exact QX.Move TYok
    | exact QX.Asg TYok
    | exact QX.Fld TYok
    | exact QX.Ld TYok
    | exact QX.Bin TYok
    | exact QX.Pick TYok
    | exact QX.Un TYok
    | exact QX.Ext TYok
    | (apply Q_callGd hG (h0); exact EvD.auto)
    | (apply Q_callG hG (h0); exact EvL.auto; exact rfl)
    | (apply Q_calld (f1); exact EvD.auto)
    | (apply Q_calld (f2); exact EvD.auto)
    | (apply Q_calld (f3); exact EvD.auto)
    | (apply Q_calld (r1); exact EvD.auto)
    | (apply Q_calld (r2); exact EvD.auto)
    | (apply Q_calld (r3); exact EvD.auto)); exact rfl)
      | refine SX.Alloc TYok (h := ?_)
      | refine SX.Store TYok (h := ?_)
      | refine SX.Box TYok (h := ?_)
      | apply RG.nil
      | apply Lex.nil
      | apply Then.n
      | apply Then.r
      | apply Then.x
      | apply InBlock.n
      | apply InBlock.r
      | apply InBlock.hit
      | (apply InBlock.miss; exact rfl)
      | apply W.seq
      | apply W.region
      | apply W.block
      | apply W.skip
      | apply W.ret
      | apply W.exit
      | (apply S_isnil TYok; exact rfl; exact rfl; exact rfl; exact Ev.auto; intro bn hnil)
      | (apply RG.gT; exact rfl; exact rfl; (first | assumption | decide))
      | (apply RG.gF; exact rfl; exact rfl; (first | assumption | decide | (rw [ne_eq, Bool.not_eq_true]; assumption) | (rw [ne_eq, Bool.not_eq_false]; assumption)); exact rfl)
      | (refine W.drawM (id := 5) [([false, false, false, false, false, false, false, false, false, false], [(0, 1), (2, 2), (7, 3)]), ([true, false, false, false, false, false, false, false, false, false], [(1, 4), (2, 5), (7, 6)]), ([false, false, true, false, false, false, false, false, false, false], [(0, 5), (7, 7)]), ([false, false, false, false, false, false, false, true, false, false], [(0, 6), (2, 7)]), ([true, true, false, false, false, false, false, false, false, false], [(2, 8), (7, 9)]), ([true, false, true, false, false, false, false, false, false, false], [(1, 8), (7, 10)]), ([true, false, false, false, false, false, false, true, false, false], [(1, 9), (2, 10)]), ([false, false, true, false, false, false, false, true, false, false], [(0, 10)]), ([true, true, true, false, false, false, false, false, false, false], [(3, 11), (7, 12)]), ([true, true, false, false, false, false, false, true, false, false], [(2, 12)]), ([true, false, true, false, false, false, false, true, false, false], [(1, 12)]), ([true, true, true, true, false, false, false, false, false, false], [(4, 13), (7, 14)]), ([true, true, true, false, false, false, false, true, false, false], [(3, 14)]), ([true, true, true, true, true, false, false, false, false, false], [(5, 15), (6, 16), (7, 17)]), ([true, true, true, true, false, false, false, true, false, false], [(4, 17)]), ([true, true, true, true, true, true, false, false, false, false], [(6, 18), (7, 19)]), ([true, true, true, true, true, false, true, false, false, false], [(5, 18), (7, 20)]), ([true, true, true, true, true, false, false, true, false, false], [(5, 19), (6, 20)]), ([true, true, true, true, true, true, true, false, false, false], [(7, 21)]), ([true, true, true, true, true, true, false, true, false, false], [(6, 21), (8, 22)]), ([true, true, true, true, true, false, true, true, false, false], [(5, 21)]), ([true, true, true, true, true, true, true, true, false, false], [(8, 23)]), ([true, true, true, true, true, true, false, true, true, false], [(6, 23)]), ([true, true, true, true, true, true, true, true, true, false], [(9, 24)]), ([true, true, true, true, true, true, true, true, true, true], [])] [?_, ?_, ?_, ?_, ?_, ?_, ?_, ?_, ?_, ?_, ?_, ?_, ?_, ?_, ?_, ?_, ?_, ?_, ?_, ?_, ?_, ?_, ?_, ?_, ?_] mixed (by kernel_rfl) rfl rfl rfl rfl ?_ ?_ rfl ?_; rotate_left 25)
      | exact MN.nil
      | (refine MN.cons ?_ ?_)
      | exact MG.nil
      | (refine MG.cons rfl rfl ?_ ?_)
      | exact Le.refl
      | (refine Le.st rfl (by repeat (first | exact SubEK.nil | refine SubEK.skip rfl ?_ | refine SubEK.one rfl (by first | exact trivial | exact rfl) ?_)) (by repeat (first | exact SubBK.nil | refine SubBK.skip rfl ?_ | refine SubBK.one rfl ?_)))
      | (refine W.condA (ht := fun hb => ?_) (hf := fun hb => ?_) <;> (try simp at hb) <;> (try (exfalso; omega))))
    all_goals exact FinM.ret ResM.auto
  obtain ⟨⟨⟨w1, w2⟩, w3⟩, q1, q2, q3⟩ := hw
  rw [q1] at r1
  rw [q2] at r2
  rw [q3] at r3
  obtain ⟨x, ox, rfl, rfl⟩ := right_num q1
  obtain ⟨y, oy, rfl, rfl⟩ := right_num q2
  obtain ⟨z, oz, rfl, rfl⟩ := right_num q3
  have b1 := lt40 w1
  have b2 := lt40 w2
  have b3 := lt40 w3
  have cx := sgn_cases x
  have cy := sgn_cases y
  have cz := sgn_cases z
  have h16 := pw_lt (show 16 < 60 by omega)
  have h12 := pw_lt (show 12 < 60 by omega)
  have m1 := mul_lt (k := 16) rfl b1 b3
  have m2 := mul_lt (k := 16) rfl b2 b3
  have pxz : okZ (x * z) := okZ.of (by omega)
  have pyz : okZ (y * z) := okZ.of (by omega)
  have gn := gcd_nn x y
  have gl := gcd_le b1 b2 (pw_pos 12)
  have g0 := gcd_zero x y
  have m3 := mul_lt (x := gcdZ x y) (m := 12) (k := 16) rfl (by omega) b3
  have pgz : okZ (gcdZ x y * z) := okZ.of (by omega)
  have og := gcd_lt ox oy
  have g1 := gcdZ_ok x y ox oy
  have n1 := neg_ok y oy
  have g2 := gcdZ_ok (-y) x (okZ_neg oy) ox
  rw [gcd_neg_swap] at g2
  have e1 := sameZ_ok (gcdZ x y) (gcdZ x y) og og
  rw [decide_eq_true rfl] at e1
  have cg := sgn_cases (gcdZ x y)
  have p1 := mulZ_ok x z ox oz
  rw [(full_yes pxz).1, (full_yes pxz).2] at p1
  have p2 := mulZ_ok y z oy oz
  rw [(full_yes pyz).1, (full_yes pyz).2] at p2
  have g3 := gcdZ_ok (x * z) (y * z) pxz pyz
  have og3 := gcd_lt pxz pyz
  rw [gcd_mulr] at g3 og3
  have p3 := mulZ_ok (gcdZ x y) z og oz
  rw [(full_yes pgz).1, (full_yes pgz).2] at p3
  have n2 := neg_ok (gcdZ x y * z) pgz
  have s1 := sameZ_ok (gcdZ x y * mag z) (gcdZ x y * z) og3 pgz
  have s2 := sameZ_ok (gcdZ x y * mag z) (-(gcdZ x y * z)) og3 (okZ_neg pgz)
  have hs : (sgn z < 0 ∧ gcdZ x y * mag z = -(gcdZ x y * z)) ∨ (¬ sgn z < 0 ∧ gcdZ x y * mag z = gcdZ x y * z) := by
    rcases cz with h | h | h
    · exact .inl ⟨by omega, by rw [h.2.2]; grind⟩
    · exact .inr ⟨by omega, by rw [h.2.2, h.2.1]⟩
    · exact .inr ⟨by omega, by rw [h.2.2]⟩
  have hbad : sgn (gcdZ x y) < 0 ∨ ¬ decide (sgn (gcdZ x y) = 0) = (decide (sgn x = 0) && decide (sgn y = 0)) → False := by
    rintro (h | h)
    · omega
    · refine h ?_
      rw [← Bool.decide_and]
      exact decide_eq_decide.2 (by omega)
  by_cases hg : gcdZ x y = 0
  · obtain ⟨hx, hy⟩ := g0.1 hg
    subst hx
    subst hy
    rw [hg] at g1 g2 e1 g3 p3 n2 s1 s2 hs cg
    have e0 := sgn0
    refine GCalls.of_M TYok (qs := [cB true]) [.tmp 6] 217 Tryd.func3 (by kernel_rfl) rfl rfl rfl fun G hG => ?_
    refine W.initA (hw := ?_)
    repeat' (first
      | (refine W.purgeR [(5, [3, 4, 5, 7, 8, 9]), (6, [3, 4, 5, 7, 8, 9, 10, 11]), (8, [3, 4, 5, 7, 8]), (13, [3, 4, 5, 7, 8]), (16, [3, 4, 5, 7, 8, 20, 21, 22]), (18, [3, 4, 5, 7, 8]), (22, [5, 7, 24, 26, 27, 28, 29, 30])] rfl (by repeat (first | exact PN.nil | apply PN.po rfl | (apply PN.pa; exact rfl; (repeat (first | (apply NR.cons; exact rfl) | exact NR.nil rfl))) | apply PN.a rfl | apply PN.s rfl | apply PN.u rfl | apply PN.m rfl | apply PN.k rfl | apply PN.i rfl | apply PN.skip)) (by repeat (first | exact PB.nil | (apply PB.one; exact rfl; (focus (first | (dsimp only; done) | (dsimp only; exact rfl) | exact rfl)); (focus (first | (dsimp only; done) | (dsimp only; exact rfl) | exact rfl)); exact rfl; (repeat (first | (apply NR.cons; exact rfl) | exact NR.nil rfl))) | apply PB.cons rfl)) ?_)
      | ((first | apply U_ | (apply Ug_; exact rfl; exact rfl) | (apply Ugq_; exact rfl; exact rfl)); (first
    | exact QX.Move TYok
    | exact QX.Asg TYok
    | exact QX.Fld TYok
    | exact QX.Ld TYok
    | exact QX.Bin TYok
    | exact QX.Pick TYok
    | exact QX.Un TYok
    | exact QX.Ext TYok
    | (apply Q_callGd hG (h0); exact EvD.auto)
    | (apply Q_callG hG (h0); exact EvL.auto; exact rfl)
    | (apply Q_calld (f1); exact EvD.auto)
    | (apply Q_calld (f2); exact EvD.auto)
    | (apply Q_calld (f3); exact EvD.auto)
    | (apply Q_calld (r1); exact EvD.auto)
    | (apply Q_calld (r2); exact EvD.auto)
    | (apply Q_calld (r3); exact EvD.auto)
    | (apply Q_calld (g1); exact EvD.auto)
    | (apply Q_calld (n1); exact EvD.auto)
    | (apply Q_calld (g2); exact EvD.auto)
    | (apply Q_calld (e1); exact EvD.auto)
    | (apply Q_calld (p1); exact EvD.auto)
    | (apply Q_calld (p2); exact EvD.auto)
    | (apply Q_calld (g3); exact EvD.auto)
    | (apply Q_calld (p3); exact EvD.auto)
    | (apply Q_calld (n2); exact EvD.auto)
    | (apply Q_calld (s1); exact EvD.auto)
    | (apply Q_calld (s2); exact EvD.auto)); exact rfl)
      | refine SX.Alloc TYok (h := ?_)
      | refine SX.Store TYok (h := ?_)
      | refine SX.Box TYok (h := ?_)
      | apply RG.nil
      | apply Lex.nil
      | apply Then.n
      | apply Then.r
      | apply Then.x
      | apply InBlock.n
      | apply InBlock.r
      | apply InBlock.hit
      | (apply InBlock.miss; exact rfl)
      | apply W.seq
      | apply W.region
      | apply W.block
      | apply W.skip
      | apply W.ret
      | apply W.exit
      | (apply S_isnil TYok; exact rfl; exact rfl; exact rfl; exact Ev.auto; intro bn hnil)
      | (apply RG.gT; exact rfl; exact rfl; (first | assumption | decide))
      | (apply RG.gF; exact rfl; exact rfl; (first | assumption | decide | (rw [ne_eq, Bool.not_eq_true]; assumption) | (rw [ne_eq, Bool.not_eq_false]; assumption)); exact rfl)
      | (refine W.drawM (id := 5) [([false, false, false, false, false, false, false, false, false, false], [(0, 1), (2, 2), (7, 3)]), ([true, false, false, false, false, false, false, false, false, false], [(1, 4), (2, 5), (7, 6)]), ([false, false, true, false, false, false, false, false, false, false], [(0, 5), (7, 7)]), ([false, false, false, false, false, false, false, true, false, false], [(0, 6), (2, 7)]), ([true, true, false, false, false, false, false, false, false, false], [(2, 8), (7, 9)]), ([true, false, true, false, false, false, false, false, false, false], [(1, 8), (7, 10)]), ([true, false, false, false, false, false, false, true, false, false], [(1, 9), (2, 10)]), ([false, false, true, false, false, false, false, true, false, false], [(0, 10)]), ([true, true, true, false, false, false, false, false, false, false], [(3, 11), (7, 12)]), ([true, true, false, false, false, false, false, true, false, false], [(2, 12)]), ([true, false, true, false, false, false, false, true, false, false], [(1, 12)]), ([true, true, true, true, false, false, false, false, false, false], [(4, 13), (7, 14)]), ([true, true, true, false, false, false, false, true, false, false], [(3, 14)]), ([true, true, true, true, true, false, false, false, false, false], [(5, 15), (6, 16), (7, 17)]), ([true, true, true, true, false, false, false, true, false, false], [(4, 17)]), ([true, true, true, true, true, true, false, false, false, false], [(6, 18), (7, 19)]), ([true, true, true, true, true, false, true, false, false, false], [(5, 18), (7, 20)]), ([true, true, true, true, true, false, false, true, false, false], [(5, 19), (6, 20)]), ([true, true, true, true, true, true, true, false, false, false], [(7, 21)]), ([true, true, true, true, true, true, false, true, false, false], [(6, 21), (8, 22)]), ([true, true, true, true, true, false, true, true, false, false], [(5, 21)]), ([true, true, true, true, true, true, true, true, false, false], [(8, 23)]), ([true, true, true, true, true, true, false, true, true, false], [(6, 23)]), ([true, true, true, true, true, true, true, true, true, false], [(9, 24)]), ([true, true, true, true, true, true, true, true, true, true], [])] [?_, ?_, ?_, ?_, ?_, ?_, ?_, ?_, ?_, ?_, ?_, ?_, ?_, ?_, ?_, ?_, ?_, ?_, ?_, ?_, ?_, ?_, ?_, ?_, ?_] mixed (by kernel_rfl) rfl rfl rfl rfl ?_ ?_ rfl ?_; rotate_left 25)
      | exact MN.nil
      | (refine MN.cons ?_ ?_)
      | exact MG.nil
      | (refine MG.cons rfl rfl ?_ ?_)
      | exact Le.refl
      | (refine Le.st rfl (by repeat (first | exact SubEK.nil | refine SubEK.skip rfl ?_ | refine SubEK.one rfl (by first | exact trivial | exact rfl) ?_)) (by repeat (first | exact SubBK.nil | refine SubBK.skip rfl ?_ | refine SubBK.one rfl ?_)))
      | (refine W.condA (ht := fun hb => ?_) (hf := fun hb => ?_) <;> (try simp at hb) <;> (try (exfalso; omega))))
    all_goals first
      | exact FinM.ret ResM.auto
      | (exfalso; omega)
      | exact FinM.ret (ResM.tmp rfl rfl (PSub.of_eq (congrArg (fun b => PV.one (Cell.bool b)) (by simp only [Bool.and_eq_true, Bool.or_eq_true, decide_eq_true_iff, true_and]; omega))) ResM.nil)
      | trace_state
  have d1 := divZ_ok x (gcdZ x y) ox og hg
  have d2 := divZ_ok y (gcdZ x y) oy og hg
  rw [rem_dvd (gcd_l x y) hg] at d1
  rw [rem_dvd (gcd_r x y) hg] at d2
  have e0 := sgn0
  by_cases hx : x = 0
  · subst hx
    generalize gcdZ 0 y = g at *
    refine GCalls.of_M TYok (qs := [cB true]) [.tmp 6] 217 Tryd.func3 (by kernel_rfl) rfl rfl rfl fun G hG => ?_
    refine W.initA (hw := ?_)
    repeat' (first
      | (refine W.purgeR [(5, [3, 4, 5, 7, 8, 9]), (6, [3, 4, 5, 7, 8, 9, 10, 11]), (8, [3, 4, 5, 7, 8]), (13, [3, 4, 5, 7, 8]), (16, [3, 4, 5, 7, 8, 20, 21, 22]), (18, [3, 4, 5, 7, 8]), (22, [5, 7, 24, 26, 27, 28, 29, 30])] rfl (by repeat (first | exact PN.nil | apply PN.po rfl | (apply PN.pa; exact rfl; (repeat (first | (apply NR.cons; exact rfl) | exact NR.nil rfl))) | apply PN.a rfl | apply PN.s rfl | apply PN.u rfl | apply PN.m rfl | apply PN.k rfl | apply PN.i rfl | apply PN.skip)) (by repeat (first | exact PB.nil | (apply PB.one; exact rfl; (focus (first | (dsimp only; done) | (dsimp only; exact rfl) | exact rfl)); (focus (first | (dsimp only; done) | (dsimp only; exact rfl) | exact rfl)); exact rfl; (repeat (first | (apply NR.cons; exact rfl) | exact NR.nil rfl))) | apply PB.cons rfl)) ?_)
      | ((first | apply U_ | (apply Ug_; exact rfl; exact rfl) | (apply Ugq_; exact rfl; exact rfl)); (first
    | exact QX.Move TYok
    | exact QX.Asg TYok
    | exact QX.Fld TYok
    | exact QX.Ld TYok
    | exact QX.Bin TYok
    | exact QX.Pick TYok
    | exact QX.Un TYok
    | exact QX.Ext TYok
    | (apply Q_callGd hG (h0); exact EvD.auto)
    | (apply Q_callG hG (h0); exact EvL.auto; exact rfl)
    | (apply Q_calld (f1); exact EvD.auto)
    | (apply Q_calld (f2); exact EvD.auto)
    | (apply Q_calld (f3); exact EvD.auto)
    | (apply Q_calld (r1); exact EvD.auto)
    | (apply Q_calld (r2); exact EvD.auto)
    | (apply Q_calld (r3); exact EvD.auto)
    | (apply Q_calld (g1); exact EvD.auto)
    | (apply Q_calld (n1); exact EvD.auto)
    | (apply Q_calld (g2); exact EvD.auto)
    | (apply Q_calld (e1); exact EvD.auto)
    | (apply Q_calld (d1); exact EvD.auto)
    | (apply Q_calld (d2); exact EvD.auto)
    | (apply Q_calld (p1); exact EvD.auto)
    | (apply Q_calld (p2); exact EvD.auto)
    | (apply Q_calld (g3); exact EvD.auto)
    | (apply Q_calld (p3); exact EvD.auto)
    | (apply Q_calld (n2); exact EvD.auto)
    | (apply Q_calld (s1); exact EvD.auto)
    | (apply Q_calld (s2); exact EvD.auto)); exact rfl)
      | refine SX.Alloc TYok (h := ?_)
      | refine SX.Store TYok (h := ?_)
      | refine SX.Box TYok (h := ?_)
      | apply RG.nil
      | apply Lex.nil
      | apply Then.n
      | apply Then.r
      | apply Then.x
      | apply InBlock.n
      | apply InBlock.r
      | apply InBlock.hit
      | (apply InBlock.miss; exact rfl)
      | apply W.seq
      | apply W.region
      | apply W.block
      | apply W.skip
      | apply W.ret
      | apply W.exit
      | (apply S_isnil TYok; exact rfl; exact rfl; exact rfl; exact Ev.auto; intro bn hnil)
      | (apply RG.gT; exact rfl; exact rfl; (first | assumption | decide))
      | (apply RG.gF; exact rfl; exact rfl; (first | assumption | decide | (rw [ne_eq, Bool.not_eq_true]; assumption) | (rw [ne_eq, Bool.not_eq_false]; assumption)); exact rfl)
      | (refine W.drawM (id := 5) [([false, false, false, false, false, false, false, false, false, false], [(0, 1), (2, 2), (7, 3)]), ([true, false, false, false, false, false, false, false, false, false], [(1, 4), (2, 5), (7, 6)]), ([false, false, true, false, false, false, false, false, false, false], [(0, 5), (7, 7)]), ([false, false, false, false, false, false, false, true, false, false], [(0, 6), (2, 7)]), ([true, true, false, false, false, false, false, false, false, false], [(2, 8), (7, 9)]), ([true, false, true, false, false, false, false, false, false, false], [(1, 8), (7, 10)]), ([true, false, false, false, false, false, false, true, false, false], [(1, 9), (2, 10)]), ([false, false, true, false, false, false, false, true, false, false], [(0, 10)]), ([true, true, true, false, false, false, false, false, false, false], [(3, 11), (7, 12)]), ([true, true, false, false, false, false, false, true, false, false], [(2, 12)]), ([true, false, true, false, false, false, false, true, false, false], [(1, 12)]), ([true, true, true, true, false, false, false, false, false, false], [(4, 13), (7, 14)]), ([true, true, true, false, false, false, false, true, false, false], [(3, 14)]), ([true, true, true, true, true, false, false, false, false, false], [(5, 15), (6, 16), (7, 17)]), ([true, true, true, true, false, false, false, true, false, false], [(4, 17)]), ([true, true, true, true, true, true, false, false, false, false], [(6, 18), (7, 19)]), ([true, true, true, true, true, false, true, false, false, false], [(5, 18), (7, 20)]), ([true, true, true, true, true, false, false, true, false, false], [(5, 19), (6, 20)]), ([true, true, true, true, true, true, true, false, false, false], [(7, 21)]), ([true, true, true, true, true, true, false, true, false, false], [(6, 21), (8, 22)]), ([true, true, true, true, true, false, true, true, false, false], [(5, 21)]), ([true, true, true, true, true, true, true, true, false, false], [(8, 23)]), ([true, true, true, true, true, true, false, true, true, false], [(6, 23)]), ([true, true, true, true, true, true, true, true, true, false], [(9, 24)]), ([true, true, true, true, true, true, true, true, true, true], [])] [?_, ?_, ?_, ?_, ?_, ?_, ?_, ?_, ?_, ?_, ?_, ?_, ?_, ?_, ?_, ?_, ?_, ?_, ?_, ?_, ?_, ?_, ?_, ?_, ?_] mixed (by kernel_rfl) rfl rfl rfl rfl ?_ ?_ rfl ?_; rotate_left 25)
      | exact MN.nil
      | (refine MN.cons ?_ ?_)
      | exact MG.nil
      | (refine MG.cons rfl rfl ?_ ?_)
      | exact Le.refl
      | (refine Le.st rfl (by repeat (first | exact SubEK.nil | refine SubEK.skip rfl ?_ | refine SubEK.one rfl (by first | exact trivial | exact rfl) ?_)) (by repeat (first | exact SubBK.nil | refine SubBK.skip rfl ?_ | refine SubBK.one rfl ?_)))
      | (refine W.condA (ht := fun hb => ?_) (hf := fun hb => ?_) <;> (try simp at hb) <;> (try (exfalso; first | exact hbad hb | omega))))
    all_goals first
      | exact FinM.ret ResM.auto
      | (exfalso; omega)
      | exact FinM.ret (ResM.tmp rfl rfl (PSub.of_eq (congrArg (fun b => PV.one (Cell.bool b)) (by simp only [Bool.and_eq_true, Bool.or_eq_true, decide_eq_true_iff, true_and]; omega))) ResM.nil)
      | trace_state
  have d3 := divZ_ok y x oy ox hx
  have or' := okZ_rem (x := y) ox hx
  have g4 := gcdZ_ok x (remZ y x) ox or'
  rw [gcd_rem] at g4
  generalize gcdZ x y = g at *
  refine GCalls.of_M TYok (qs := [cB true]) [.tmp 6] 217 Tryd.func3 (by kernel_rfl) rfl rfl rfl fun G hG => ?_
  refine W.initA (hw := ?_)
  repeat' (first
    | (refine W.purgeR [(5, [3, 4, 5, 7, 8, 9]), (6, [3, 4, 5, 7, 8, 9, 10, 11]), (8, [3, 4, 5, 7, 8]), (13, [3, 4, 5, 7, 8]), (16, [3, 4, 5, 7, 8, 20, 21, 22]), (18, [3, 4, 5, 7, 8]), (22, [5, 7, 24, 26, 27, 28, 29, 30])] rfl (by repeat (first | exact PN.nil | apply PN.po rfl | (apply PN.pa; exact rfl; (repeat (first | (apply NR.cons; exact rfl) | exact NR.nil rfl))) | apply PN.a rfl | apply PN.s rfl | apply PN.u rfl | apply PN.m rfl | apply PN.k rfl | apply PN.i rfl | apply PN.skip)) (by repeat (first | exact PB.nil | (apply PB.one; exact rfl; (focus (first | (dsimp only; done) | (dsimp only; exact rfl) | exact rfl)); (focus (first | (dsimp only; done) | (dsimp only; exact rfl) | exact rfl)); exact rfl; (repeat (first | (apply NR.cons; exact rfl) | exact NR.nil rfl))) | apply PB.cons rfl)) ?_)
    | ((first | apply U_ | (apply Ug_; exact rfl; exact rfl) | (apply Ugq_; exact rfl; exact rfl)); (first
    | exact QX.Move TYok
    | exact QX.Asg TYok
    | exact QX.Fld TYok
    | exact QX.Ld TYok
    | exact QX.Bin TYok
    | exact QX.Pick TYok
    | exact QX.Un TYok
    | exact QX.Ext TYok
    | (apply Q_callGd hG (h0); exact EvD.auto)
    | (apply Q_callG hG (h0); exact EvL.auto; exact rfl)
    | (apply Q_calld (f1); exact EvD.auto)
    | (apply Q_calld (f2); exact EvD.auto)
    | (apply Q_calld (f3); exact EvD.auto)
    | (apply Q_calld (r1); exact EvD.auto)
    | (apply Q_calld (r2); exact EvD.auto)
    | (apply Q_calld (r3); exact EvD.auto)
    | (apply Q_calld (g1); exact EvD.auto)
    | (apply Q_calld (n1); exact EvD.auto)
    | (apply Q_calld (g2); exact EvD.auto)
    | (apply Q_calld (e1); exact EvD.auto)
    | (apply Q_calld (d1); exact EvD.auto)
    | (apply Q_calld (d2); exact EvD.auto)
    | (apply Q_calld (d3); exact EvD.auto)
    | (apply Q_calld (g4); exact EvD.auto)
    | (apply Q_calld (p1); exact EvD.auto)
    | (apply Q_calld (p2); exact EvD.auto)
    | (apply Q_calld (g3); exact EvD.auto)
    | (apply Q_calld (p3); exact EvD.auto)
    | (apply Q_calld (n2); exact EvD.auto)
    | (apply Q_calld (s1); exact EvD.auto)
    | (apply Q_calld (s2); exact EvD.auto)); exact rfl)
    | refine SX.Alloc TYok (h := ?_)
    | refine SX.Store TYok (h := ?_)
    | refine SX.Box TYok (h := ?_)
    | apply RG.nil
    | apply Lex.nil
    | apply Then.n
    | apply Then.r
    | apply Then.x
    | apply InBlock.n
    | apply InBlock.r
    | apply InBlock.hit
    | (apply InBlock.miss; exact rfl)
    | apply W.seq
    | apply W.region
    | apply W.block
    | apply W.skip
    | apply W.ret
    | apply W.exit
    | (apply S_isnil TYok; exact rfl; exact rfl; exact rfl; exact Ev.auto; intro bn hnil)
    | (apply RG.gT; exact rfl; exact rfl; (first | assumption | decide))
    | (apply RG.gF; exact rfl; exact rfl; (first | assumption | decide | (rw [ne_eq, Bool.not_eq_true]; assumption) | (rw [ne_eq, Bool.not_eq_false]; assumption)); exact rfl)
    | (refine W.drawM (id := 5) [([false, false, false, false, false, false, false, false, false, false], [(0, 1), (2, 2), (7, 3)]), ([true, false, false, false, false, false, false, false, false, false], [(1, 4), (2, 5), (7, 6)]), ([false, false, true, false, false, false, false, false, false, false], [(0, 5), (7, 7)]), ([false, false, false, false, false, false, false, true, false, false], [(0, 6), (2, 7)]), ([true, true, false, false, false, false, false, false, false, false], [(2, 8), (7, 9)]), ([true, false, true, false, false, false, false, false, false, false], [(1, 8), (7, 10)]), ([true, false, false, false, false, false, false, true, false, false], [(1, 9), (2, 10)]), ([false, false, true, false, false, false, false, true, false, false], [(0, 10)]), ([true, true, true, false, false, false, false, false, false, false], [(3, 11), (7, 12)]), ([true, true, false, false, false, false, false, true, false, false], [(2, 12)]), ([true, false, true, false, false, false, false, true, false, false], [(1, 12)]), ([true, true, true, true, false, false, false, false, false, false], [(4, 13), (7, 14)]), ([true, true, true, false, false, false, false, true, false, false], [(3, 14)]), ([true, true, true, true, true, false, false, false, false, false], [(5, 15), (6, 16), (7, 17)]), ([true, true, true, true, false, false, false, true, false, false], [(4, 17)]), ([true, true, true, true, true, true, false, false, false, false], [(6, 18), (7, 19)]), ([true, true, true, true, true, false, true, false, false, false], [(5, 18), (7, 20)]), ([true, true, true, true, true, false, false, true, false, false], [(5, 19), (6, 20)]), ([true, true, true, true, true, true, true, false, false, false], [(7, 21)]), ([true, true, true, true, true, true, false, true, false, false], [(6, 21), (8, 22)]), ([true, true, true, true, true, false, true, true, false, false], [(5, 21)]), ([true, true, true, true, true, true, true, true, false, false], [(8, 23)]), ([true, true, true, true, true, true, false, true, true, false], [(6, 23)]), ([true, true, true, true, true, true, true, true, true, false], [(9, 24)]), ([true, true, true, true, true, true, true, true, true, true], [])] [?_, ?_, ?_, ?_, ?_, ?_, ?_, ?_, ?_, ?_, ?_, ?_, ?_, ?_, ?_, ?_, ?_, ?_, ?_, ?_, ?_, ?_, ?_, ?_, ?_] mixed (by kernel_rfl) rfl rfl rfl rfl ?_ ?_ rfl ?_; rotate_left 25)
    | exact MN.nil
    | (refine MN.cons ?_ ?_)
    | exact MG.nil
    | (refine MG.cons rfl rfl ?_ ?_)
    | exact Le.refl
    | (refine Le.st rfl (by repeat (first | exact SubEK.nil | refine SubEK.skip rfl ?_ | refine SubEK.one rfl (by first | exact trivial | exact rfl) ?_)) (by repeat (first | exact SubBK.nil | refine SubBK.skip rfl ?_ | refine SubBK.one rfl ?_)))
    | (refine W.condA (ht := fun hb => ?_) (hf := fun hb => ?_) <;> (try simp at hb) <;> (try (exfalso; first | exact hbad hb | omega))))
  all_goals first
      | exact FinM.ret ResM.auto
      | (exfalso; omega)
      | exact FinM.ret (ResM.tmp rfl rfl (PSub.of_eq (congrArg (fun b => PV.one (Cell.bool b)) (by simp only [Bool.and_eq_true, Bool.or_eq_true, decide_eq_true_iff, true_and]; omega))) ResM.nil)
      | trace_state
end Go.Proofs.YtldgkgfkdipdeaaDoor
