/-
  Part 13 of what the proof rests on.
-/
import Derived.Test.YtldgkgfkdipdeaaGreatDoorTellsS09
set_option linter.unusedVariables false
set_option linter.unusedSimpArgs false
set_option maxHeartbeats 8000000
namespace Go.Proofs.YtldgkgfkdipdeaaGreatDoor
open Lf Go
attribute [local irreducible] PureOp EffOp Ev RG W Then InBlock Lf.Fin nth App InitE Pick SubE EvL EvD EvP EvR ResL Lf.Lex SubR SubBR FinO FinM ResM ResD FinS val pw digs trimL
theorem subZ_ok (x y : Int) (hx : okZ x) (hy : okZ y) : ACalls Tryz.prog 8 [zB x, zB y] (.tup [zB (fullZ (x - y)), cI (fullE (x - y))]) := by
  have h1 := right_yes hy
  have h2 := neg_ok y hy
  have h3 := addZ_ok x (-y) hx (okZ_neg hy)
  rw [← Int.sub_eq_add_neg] at h3
  generalize x - y = z at *
  refine ACalls.of_M TYok (qs := [zB (fullZ z), cI (fullE z)]) [.cell 4 24, .tmp 5] 19 Tryz.func8 (by kernel_rfl) rfl rfl rfl fun G => ?_
  refine W.initA (hw := ?_)
  repeat' (first | ((first | apply U_ | apply Lex.u | (apply Lex.g; exact rfl; exact rfl) | (apply Lex.gq; exact rfl; exact rfl)); (first | exact QX.Asg TYok | exact QX.Ld TYok | exact QX.Un TYok | exact QX.Ext TYok | exact QX.Build TYok | (apply Q_call (h1); exact EvL.auto; exact rfl) | (apply Q_calld (h2); exact EvD.auto) | (apply Q_calld (h3); exact EvD.auto)); exact rfl) | refine SX.Alloc TYok (h := ?_) | refine SX.Store TYok (h := ?_) | refine SX.Box TYok (h := ?_) | apply RG.nil | apply Lex.nil | apply Then.n | apply Then.r | apply Then.x | apply InBlock.n | apply InBlock.r | apply InBlock.hit | (apply InBlock.miss; exact rfl) | apply W.seq | apply W.region | apply W.block | apply W.skip | apply W.ret | apply W.exit | (apply W.draw2 (id := 3) [0, 0, 2, 7, 15, 15, 63, 127] [[2], [3], [14], [13, 15], [16], [16]] 6 [(13, 4), (14, 8), (15, 16384), (16, 40960), (17, 65536), (18, 65536)] mixed (by kernel_rfl) rfl rfl) | (refine W.condA (ht := fun hb => ?_) (hf := fun hb => ?_) <;> (try simp at hb) <;> (try (exfalso; omega))))
  exact FinM.ret ResM.auto
theorem equal_ok (a b : List Int) (hl : a.length ≤ 1000000) (hl' : b.length ≤ 1000000) : ACalls Tryz.prog 54 [slI a, slI b] (.pv (cB (decide (a = b)))) := by
  refine ACalls.of_W (qs := [cB (decide (a = b))]) [4] 26 Tryz.func54 (by kernel_rfl) rfl rfl rfl fun G => ?_
  refine W.initA (hw := ?_)
  repeat' (first | ((first | apply U_ | apply Lex.u | (apply Lex.g; exact rfl; exact rfl) | (apply Lex.gq; exact rfl; exact rfl)); (first | exact QX.Move TYok | exact QX.Asg TYok | exact QX.Ld TYok | exact QX.Bin TYok | exact QX.Len TYok | exact QX.Idx TYok); exact rfl) | apply RG.nil | apply Lex.nil | apply Then.n | apply Then.r | apply Then.x | apply InBlock.n | apply InBlock.r | apply InBlock.hit | (apply InBlock.miss; exact rfl) | apply W.seq | apply W.region | apply W.block | apply W.skip | apply W.ret | apply W.exit | (apply W.draw2 (id := 6) [0, 0, 3, 7, 0, 0, 48, 112, 255] [[0], [5], [16, 17], [18], [1], [5], [20, 21], [22], [19, 23]] 9 [(16, 1), (17, 32), (18, 196608), (19, 262144), (20, 2), (21, 32), (22, 3145728), (23, 4194304), (24, 8912896)] mixed (by kernel_rfl) rfl rfl) | (refine W.condA (ht := fun hb => ?_) (hf := fun hb => ?_) <;> (try simp at hb) <;> (try (exfalso; omega))))
  · rw [decide_eq_false (fun e => by subst e; omega)]
    exact Fin.ret ResL.auto
  have hab : a.length = b.length := by omega
  apply W.loopP (σ := Nat) 26 [0, 1, 12] (fun k => k ≤ a.length ∧ a.take k = b.take k) (fun k => [(13, vI k)]) (fun _ => []) (fun k => a.length - k) (0)
  case hp => repeat (first | exact Pick.nil | apply Pick.cons rfl)
  case h0 =>
    refine ⟨by simp, ?_⟩
    exact Le.auto
  case round =>
    rintro k ⟨g1, g2⟩
    apply W.norm (by repeat (first | exact App.nil | apply App.cons))
    repeat' (first | ((first | apply U_ | apply Lex.u | (apply Lex.g; exact rfl; exact rfl) | (apply Lex.gq; exact rfl; exact rfl)); (first | exact QX.Move TYok | exact QX.Asg TYok | exact QX.Ld TYok | exact QX.Bin TYok | exact QX.Len TYok | exact QX.Idx TYok); exact rfl) | apply RG.nil | apply Lex.nil | apply Then.n | apply Then.r | apply Then.x | apply InBlock.n | apply InBlock.r | apply InBlock.hit | (apply InBlock.miss; exact rfl) | apply W.seq | apply W.region | apply W.block | apply W.skip | apply W.ret | apply W.exit | (apply W.draw2 (id := 6) [0, 0, 3, 7, 0, 0, 48, 112, 255] [[0], [5], [16, 17], [18], [1], [5], [20, 21], [22], [19, 23]] 9 [(16, 1), (17, 32), (18, 196608), (19, 262144), (20, 2), (21, 32), (22, 3145728), (23, 4194304), (24, 8912896)] mixed (by kernel_rfl) rfl rfl) | (refine W.condA (ht := fun hb => ?_) (hf := fun hb => ?_) <;> (try simp at hb) <;> (try (exfalso; omega))))
    · rw [decide_eq_false (fun e => by subst e; omega)]
      exact Fin.ret ResL.auto
    · refine ⟨k + 1, ⟨by omega, ?_⟩, ?_, by omega⟩
      · rw [take_nth (by omega), take_nth (by omega), g2, hb]
      · exact Le.auto
    · obtain rfl : k = a.length := by omega
      rw [List.take_length, hab, List.take_length] at g2
      rw [decide_eq_true g2]
      exact Fin.ret ResL.auto
theorem sameB_ok (s s' : Int) (a b : List Int) (hl : a.length ≤ 1000000) (hl' : b.length ≤ 1000000) : ACalls Tryz.prog 25 [aB s a, aB s' b] (.pv (cB (decide (s = s') && decide (a = b)))) := by
  have h1 := equal_ok a b hl hl'
  refine ACalls.of_W (qs := [cB (decide (s = s') && decide (a = b))]) [4] 17 Tryz.func25 (by kernel_rfl) rfl rfl rfl fun G => ?_
  refine W.initA (hw := ?_)
  repeat' (first | ((first | apply U_ | (apply Ug_; exact rfl; exact rfl) | (apply Ugq_; exact rfl; exact rfl)); (first | exact QX.Move TYok | exact QX.Asg TYok | exact QX.Fld TYok | exact QX.Ld TYok | exact QX.Bin TYok | exact QX.Pick TYok | (apply Q_call (h1); exact EvL.auto; exact rfl)); exact rfl) | refine SX.Box TYok (h := ?_) | apply RG.nil | apply Lex.nil | apply Then.n | apply Then.r | apply Then.x | apply InBlock.n | apply InBlock.r | apply InBlock.hit | (apply InBlock.miss; exact rfl) | apply W.seq | apply W.region | apply W.block | apply W.skip | apply W.ret | apply W.exit | (apply S_isnil TYok; exact rfl; exact rfl; exact rfl; exact Ev.auto; intro bn hnil) | (apply RG.gT; exact rfl; exact rfl; (first | assumption | decide)) | (apply RG.gF; exact rfl; exact rfl; (first | assumption | decide | (rw [ne_eq, Bool.not_eq_true]; assumption) | (rw [ne_eq, Bool.not_eq_false]; assumption)); exact rfl) | (refine W.condA (ht := fun hb => ?_) (hf := fun hb => ?_) <;> (try simp at hb) <;> (try (exfalso; omega))))
  exact Fin.ret ResL.auto
theorem sameZ_ok (x y : Int) (hx : okZ x) (hy : okZ y) : ACalls Tryz.prog 25 [zB x, zB y] (.pv (cB (decide (x = y)))) := by
  have h := sameB_ok (sgn x) (sgn y) (digs (mag x)) (digs (mag y)) (by have := num_len hx; omega) (by have := num_len hy; omega)
  rw [show (decide (sgn x = sgn y) && decide (digs (mag x) = digs (mag y))) = decide (x = y) by
    rw [Bool.eq_iff_iff, Bool.and_eq_true, decide_eq_true_iff, decide_eq_true_iff, decide_eq_true_iff]
    exact ⟨fun h => num_inj h.1 h.2, fun h => by rw [h]; exact ⟨rfl, rfl⟩⟩] at h
  exact h
theorem pair_ok (x y e m n : Int) (hx : okZ x) (hy : okZ y) (hm : i64B m) (hn : i64B n) (km : okZ m) (kn : okZ n) : ACalls Tryz.prog 32 [zB x, zB y, cI e, cI m, cI n] (.pv (cB (decide (e = 0) && decide (x = m) && decide (y = n)))) := by
  have h1 := ofZ_ok m hm
  have h2 := ofZ_ok n hn
  have h3 := sameZ_ok x m hx km
  have h4 := sameZ_ok y n hy kn
  refine ACalls.of_W (qs := [cB (decide (e = 0) && decide (x = m) && decide (y = n))]) [10] 25 Tryz.func32 (by kernel_rfl) rfl rfl rfl fun G => ?_
  refine W.initA (hw := ?_)
  repeat' (first | ((first | apply U_ | (apply Ug_; exact rfl; exact rfl) | (apply Ugq_; exact rfl; exact rfl) | apply Lex.u | (apply Lex.g; exact rfl; exact rfl) | (apply Lex.gq; exact rfl; exact rfl)); (first | exact QX.Move TYok | exact QX.Asg TYok | exact QX.Ld TYok | exact QX.Bin TYok | exact QX.Pick TYok | (apply Q_call (h1); exact EvL.auto; exact rfl) | (apply Q_call (h2); exact EvL.auto; exact rfl) | (apply Q_call (h3); exact EvL.auto; exact rfl) | (apply Q_call (h4); exact EvL.auto; exact rfl) | (apply Q_calld (h1); exact EvD.auto) | (apply Q_calld (h2); exact EvD.auto) | (apply Q_calld (h3); exact EvD.auto) | (apply Q_calld (h4); exact EvD.auto)); exact rfl) | refine SX.Box TYok (h := ?_) | apply RG.nil | apply Lex.nil | apply Then.n | apply Then.r | apply Then.x | apply InBlock.n | apply InBlock.r | apply InBlock.hit | (apply InBlock.miss; exact rfl) | apply W.seq | apply W.region | apply W.block | apply W.skip | apply W.ret | apply W.exit | (apply S_isnil TYok; exact rfl; exact rfl; exact rfl; exact Ev.auto; intro bn hnil) | (apply RG.gT; exact rfl; exact rfl; (first | assumption | decide)) | (apply RG.gF; exact rfl; exact rfl; (first | assumption | decide | (rw [ne_eq, Bool.not_eq_true]; assumption) | (rw [ne_eq, Bool.not_eq_false]; assumption)); exact rfl) | (apply W.draw2 (id := 1) [0, 1, 3, 7, 7, 23, 63, 127, 255, 511, 511, 1535, 4095, 8191, 16383] [[2], [11], [12], [5, 13], [3, 13], [15, 13], [14, 16, 13], [13, 17], [18], [6, 19], [4, 19], [21, 19], [20, 22, 19], [19, 23], [24]] 15 [(11, 4), (12, 2048), (13, 4096), (14, 8224), (15, 8200), (16, 40960), (17, 90112), (18, 139264), (19, 262144), (20, 524352), (21, 524304), (22, 2621440), (23, 5767168), (24, 8912896), (10, 16777216)] mixed (by kernel_rfl) rfl rfl) | (refine W.condA (ht := fun hb => ?_) (hf := fun hb => ?_) <;> (try simp at hb) <;> (try (exfalso; omega))))
  all_goals exact Fin.ret ResL.auto
set_option maxRecDepth 20000 in
theorem small_ok : GCalls Tryz.prog 2 powC 4 [] (.pv (cB true)) := by
  have o1 : okZ 1048577 := ok_of (by decide +kernel)
  have o2 : okZ (-99999999999) := ok_of (by decide +kernel)
  have o3 : okZ 99999999999 := ok_of (by decide +kernel)
  have o4 : okZ (-7) := ok_of (by decide +kernel)
  have o5 : okZ 2 := ok_of (by decide +kernel)
  have o6 : okZ 7 := ok_of (by decide +kernel)
  have o7 : okZ (-2) := ok_of (by decide +kernel)
  have o8 : okZ (-12) := ok_of (by decide +kernel)
  have o9 : okZ 18 := ok_of (by decide +kernel)
  have o10 : okZ 0 := ok_of (by decide +kernel)
  have o11 : okZ (-5) := ok_of (by decide +kernel)
  have o12 : okZ 9223372036854775808 := ok_of (by decide +kernel)
  have o13 : okZ (-9999999999800000000001) := ok_of (by decide +kernel)
  have o14 : okZ (-4) := ok_of (by decide +kernel)
  have o15 : okZ 1 := ok_of (by decide +kernel)
  have o16 : okZ (-1) := ok_of (by decide +kernel)
  have o17 : okZ 3 := ok_of (by decide +kernel)
  have o18 : okZ 6 := ok_of (by decide +kernel)
  have o19 : okZ 5 := ok_of (by decide +kernel)
  have o20 : okZ (-9223372036854775808) := ok_of (by decide +kernel)
  have i : ∀ x : Int, decide (-9223372036854775808 ≤ x ∧ x ≤ 9223372036854775807) = true → i64B x := fun x h => of_decide_eq_true h
  have a1 := ofZ_ok 1048577 (i _ (by decide))
  have a2 := ofZ_ok (-99999999999) (i _ (by decide))
  have a3 := ofZ_ok 99999999999 (i _ (by decide))
  have a4 := ofZ_ok (-7) (i _ (by decide))
  have a5 := ofZ_ok 2 (i _ (by decide))
  have a6 := ofZ_ok 7 (i _ (by decide))
  have a7 := ofZ_ok (-2) (i _ (by decide))
  have a8 := ofZ_ok (-12) (i _ (by decide))
  have a9 := ofZ_ok 18 (i _ (by decide))
  have a10 := ofZ_ok 0 (i _ (by decide))
  have a11 := ofZ_ok (-5) (i _ (by decide))
  have a12 := ofZ_ok 6 (i _ (by decide))
  have a13 := ofZ_ok 5 (i _ (by decide))
  have m1 := mulZ_ok _ _ o2 o3
  rw [show fullZ (-99999999999 * 99999999999) = -9999999999800000000001 by decide +kernel, show fullE (-99999999999 * 99999999999) = 0 by decide +kernel] at m1
  have d1 := divZ_ok _ _ o4 o5 (by decide)
  rw [show quoZ (-7) 2 = -4 by decide, show remZ (-7) 2 = 1 by decide] at d1
  have d2 := divZ_ok _ _ o6 o7 (by decide)
  rw [show quoZ 7 (-2) = -4 by decide, show remZ 7 (-2) = -1 by decide] at d2
  have d3 := divZ_ok _ _ o4 o7 (by decide)
  rw [show quoZ (-7) (-2) = 3 by decide, show remZ (-7) (-2) = -1 by decide] at d3
  have g1 := gcdZ_ok _ _ o8 o9
  rw [show gcdZ (-12) 18 = 6 by decide +kernel] at g1
  have g2 := gcdZ_ok _ _ o10 o11
  rw [show gcdZ 0 (-5) = 5 by decide +kernel] at g2
  have r1 := readF_ok [48, 48, 55] (by decide)
  rw [show readF [48, 48, 55] = (0, 2) by decide +kernel] at r1
  have r2 := readF_ok [45, 48] (by decide)
  rw [show readF [45, 48] = (0, 2) by decide +kernel] at r2
  have r3 := readF_ok [] (by decide)
  rw [show readF [] = (0, 2) by decide +kernel] at r3
  have n0 : zB 9223372036854775808 = aB 1 [0, 0, 0, 8] := by
    show aB (sgn 9223372036854775808) (digs (mag 9223372036854775808)) = _
    rw [show sgn 9223372036854775808 = 1 by decide +kernel, show digs (mag 9223372036854775808) = [0, 0, 0, 8] by decide +kernel]
  have n1 := intZ_ok _ o12
  rw [show intV 9223372036854775808 = 0 by decide +kernel, decide_eq_false (fun q : i64B 9223372036854775808 => by have := q.2; omega), n0] at n1
  have n2 := neg_ok _ o12
  rw [n0] at n2
  have n3 := intZ_ok _ o20
  rw [show intV (-9223372036854775808) = -9223372036854775808 by decide +kernel, decide_eq_true (i _ (by decide))] at n3
  have s1 := rsameB_ok (sgn 1048577) 1 (digs (mag 1048577)) [1, 1] (by have := num_len o1; omega) (by decide)
  rw [show (decide (sgn 1048577 = 1) && decide (digs (mag 1048577) = [1, 1])) = true by decide +kernel] at s1
  have t1 := text_ok _ o13
  rw [show txtZ (-9999999999800000000001) = [45, 57, 57, 57, 57, 57, 57, 57, 57, 57, 57, 56, 48, 48, 48, 48, 48, 48, 48, 48, 48, 48, 49] by
    have h := readF_cases [45, 57, 57, 57, 57, 57, 57, 57, 57, 57, 57, 56, 48, 48, 48, 48, 48, 48, 48, 48, 48, 48, 49]
    rw [show readF [45, 57, 57, 57, 57, 57, 57, 57, 57, 57, 57, 56, 48, 48, 48, 48, 48, 48, 48, 48, 48, 48, 49] = (-9999999999800000000001, 0) by decide +kernel] at h
    rcases h with h | h
    · exact h.2.2
    · rcases h.1 with h | h <;> cases h] at t1
  have p1 := pair_ok (-4) 1 0 (-4) 1 o14 o15 (i _ (by decide)) (i _ (by decide)) o14 o15
  have p2 := pair_ok (-4) (-1) 0 (-4) (-1) o14 o16 (i _ (by decide)) (i _ (by decide)) o14 o16
  have p3 := pair_ok 3 (-1) 0 3 (-1) o17 o16 (i _ (by decide)) (i _ (by decide)) o17 o16
  have e1 := sameZ_ok 6 6 o18 o18
  have e2 := sameZ_ok 5 5 o19 o19
  rw [decide_eq_true rfl] at e1 e2
  rw [show (decide ((0 : Int) = 0) && decide ((-4 : Int) = -4) && decide ((1 : Int) = 1)) = true by decide] at p1
  rw [show (decide ((0 : Int) = 0) && decide ((-4 : Int) = -4) && decide ((-1 : Int) = -1)) = true by decide] at p2
  rw [show (decide ((0 : Int) = 0) && decide ((3 : Int) = 3) && decide ((-1 : Int) = -1)) = true by decide] at p3
  replace r1 : ACalls Tryz.prog 17 [cS [48, 48, 55]] (.tup [zB 0, cI 2]) := r1
  replace r2 : ACalls Tryz.prog 17 [cS [45, 48]] (.tup [zB 0, cI 2]) := r2
  replace r3 : ACalls Tryz.prog 17 [cS []] (.tup [zB 0, cI 2]) := r3
  refine GCalls.of_M TYok (qs := [cB true]) [.tmp 0] 167 Tryz.func4 (by kernel_rfl) rfl rfl rfl fun G hG => ?_
  refine W.initA (hw := ?_)
  repeat' (first | ((first | apply U_ | (apply Ug_; exact rfl; exact rfl) | (apply Ugq_; exact rfl; exact rfl) | apply Lex.u | (apply Lex.g; exact rfl; exact rfl) | (apply Lex.gq; exact rfl; exact rfl)); (first | (apply Q_litD TYok; (repeat (first | exact EvR.nil | apply EvR.cons Ev.auto)); exact rfl; exact rfl; exact rfl; exact rfl; exact rfl; exact rfl) | exact QX.Move TYok | exact QX.Asg TYok | exact QX.Ld TYok | exact QX.Bin TYok | exact QX.Pick TYok | exact QX.Un TYok | exact QX.Ext TYok | exact QX.Build TYok | (apply Q_calld (a1); exact EvD.auto) | (apply Q_calld (a2); exact EvD.auto) | (apply Q_calld (a3); exact EvD.auto) | (apply Q_calld (a4); exact EvD.auto) | (apply Q_calld (a5); exact EvD.auto) | (apply Q_calld (a6); exact EvD.auto) | (apply Q_calld (a7); exact EvD.auto) | (apply Q_calld (a8); exact EvD.auto) | (apply Q_calld (a9); exact EvD.auto) | (apply Q_calld (a10); exact EvD.auto) | (apply Q_calld (a11); exact EvD.auto) | (apply Q_calld (a12); exact EvD.auto) | (apply Q_calld (a13); exact EvD.auto) | (apply Q_calld (m1); exact EvD.auto) | (apply Q_calld (d1); exact EvD.auto) | (apply Q_calld (d2); exact EvD.auto) | (apply Q_calld (d3); exact EvD.auto) | (apply Q_calld (g1); exact EvD.auto) | (apply Q_calld (g2); exact EvD.auto) | (apply Q_calld (r1); exact EvD.auto) | (apply Q_calld (r2); exact EvD.auto) | (apply Q_calld (r3); exact EvD.auto) | (apply Q_calld (n1); exact EvD.auto) | (apply Q_calld (n2); exact EvD.auto) | (apply Q_calld (n3); exact EvD.auto) | (apply Q_calld (s1); exact EvD.auto) | (apply Q_calld (p1); exact EvD.auto) | (apply Q_calld (p2); exact EvD.auto) | (apply Q_calld (p3); exact EvD.auto) | (apply Q_calld (e1); exact EvD.auto) | (apply Q_calld (e2); exact EvD.auto) | (apply Q_callG hG (t1); exact EvL.auto; exact rfl)); exact rfl) | refine SX.Alloc TYok (h := ?_) | refine SX.Store TYok (h := ?_) | refine SX.Lit TYok (h := ?_) | apply RG.nil | apply Lex.nil | apply Then.n | apply Then.r | apply Then.x | apply InBlock.n | apply InBlock.r | apply InBlock.hit | (apply InBlock.miss; exact rfl) | apply W.seq | apply W.region | apply W.block | apply W.skip | apply W.ret | apply W.exit | (apply S_isnil TYok; exact rfl; exact rfl; exact rfl; exact Ev.auto; intro bn hnil) | (apply RG.gT; exact rfl; exact rfl; (first | assumption | decide)) | (apply RG.gF; exact rfl; exact rfl; (first | assumption | decide | (rw [ne_eq, Bool.not_eq_true]; assumption) | (rw [ne_eq, Bool.not_eq_false]; assumption)); exact rfl) | (apply W.draw2 (id := 15) [0, 1, 3, 7, 15, 31, 63, 63, 255, 511, 1023, 2047, 4095, 8191, 16383, 32767, 32767, 131071, 262143, 524287, 1048575, 2097151, 4194303, 8388607, 16777215, 33554431, 67108863, 134217727, 268435455, 536870911, 1073741823, 2147483647, 4294967295, 8589934591, 17179869183, 34359738367, 68719476735, 137438953471, 274877906943, 549755813887, 1099511627775, 2199023255551, 4398046511103] [[28], [125], [14, 126], [127, 126], [126, 128], [129], [13, 130], [130], [131, 132, 130], [130, 133], [134], [16, 135], [136, 135], [135, 137], [138], [15, 139], [139], [140, 141, 139], [139, 142], [143], [18, 144], [145, 144], [144, 146], [147], [20, 148], [149, 148], [148, 150], [151], [22, 152], [153, 152], [152, 154], [155], [25, 156], [157, 156], [156, 158], [159], [27, 160], [160, 161], [162], [26, 163], [164, 163], [163, 165], [166]] 43 [(125, 268435456), (126, 42535295865117307932921825928971026432), (127, 85070591730234615865843651857942069248), (128, 255211775190703847597530955573826158592), (129, 425352958651173079329218259289710264320), (130, 680564733841876926926749214863536422912), (131, 1361129467683753853853498429727072854016), (132, 1361129467683753853853498429727072845824), (133, 9527906273786276976974489008089509920768), (134, 12250165209153784684681485867543655612416), (135, 21778071482940061661655974875633165533184), (136, 43556142965880123323311949751266331131904), (137, 130668428897640369969935849253798993199104), (138, 217780714829400616616559748756331655331840), (139, 348449143727040986586495598010130648530944), (140, 696898287454081973172991196020261297094656), (141, 696898287454081973172991196020261297061888), (142, 4878288012178573812210938372141829079433216), (143, 6272084587086737758556920764182351673556992), (144, 11150372599265311570767859136324180752990208), (145, 22300745198530623141535718272648361506242560), (146, 66902235595591869424607154817945084517941248), (147, 111503725992653115707678591363241807529902080), (148, 178405961588244985132285746181186892047843328), (149, 356811923176489970264571492362373784096735232), (150, 1070435769529469910793714477087121352287059968), (151, 1784059615882449851322857461811868920478433280), (152, 2854495385411919762116571938898990272765493248), (153, 5708990770823839524233143877797980545535180800), (154, 17126972312471518572699431633393941636592959488), (155, 28544953854119197621165719388989902727654932480), (156, 45671926166590716193865151022383844364247891968), (157, 91343852333181432387730302044767688728529338368), (158, 274031556999544297163190906134303066185487351808), (159, 456719261665907161938651510223838443642478919680), (160, 730750818665451459101842416358141509827966271488), (161, 1461501637330902918203684832716283019656066760704), (162, 4384504911992708754611054498148849058967797628928), (163, 5846006549323611672814739330865132078623730171904), (164, 11692013098647223345629478661730264157247527452672), (165, 35076039295941670036888435985190792471742381031424), (166, 58460065493236116728147393308651320786237301719040), (0, 93536104789177786765035829293842113257979682750464)] mixed (by kernel_rfl) rfl rfl) | (refine W.condA (ht := fun hb => ?_) (hf := fun hb => ?_) <;> (try simp at hb) <;> (try (exfalso; omega))))
  all_goals exact FinM.ret (ResM.tmp rfl rfl (PSub.of_eq (congrArg (fun b => PV.one (Cell.bool b)) (by decide))) ResM.nil)
theorem fewB_ok (s : Int) (l : List Int) (n : Int) (hl : l.length ≤ 9223372036854775807) : ACalls Tryz.prog 5 [aB s l, cI n] (.pv (cB (decide ((l.length : Int) ≤ n)))) := by
  refine ACalls.of_W (qs := [cB (decide ((l.length : Int) ≤ n))]) [4] 10 Tryz.func5 (by kernel_rfl) rfl rfl rfl fun G => ?_
  refine W.initA (hw := ?_)
  repeat' (first | ((first | apply U_); (first | exact QX.Move TYok | exact QX.Asg TYok | exact QX.Fld TYok | exact QX.Ld TYok | exact QX.Bin TYok | exact QX.Len TYok); exact rfl) | refine SX.Box TYok (h := ?_) | apply RG.nil | apply Lex.nil | apply Then.n | apply Then.r | apply Then.x | apply InBlock.n | apply InBlock.r | apply InBlock.hit | (apply InBlock.miss; exact rfl) | apply W.seq | apply W.region | apply W.block | apply W.skip | apply W.ret | apply W.exit | (refine W.condA (ht := fun hb => ?_) (hf := fun hb => ?_) <;> (try simp at hb) <;> (try (exfalso; omega))))
  exact Fin.ret ResL.auto
end Go.Proofs.YtldgkgfkdipdeaaGreatDoor
