/-
  Big integers: the law of the ints.
-/
import Derived.Test.YtldgkgfkdipdeaaDoorWalk12
import Derived.Test.YtldgkgfkdipdeaaDoorLfPurge
set_option linter.unusedVariables false
set_option linter.unusedSimpArgs false
set_option maxHeartbeats 8000000
namespace Go.Proofs.YtldgkgfkdipdeaaDoor
open Lf Go
attribute [local irreducible] PureOp EffOp Ev RG W Then InBlock Lf.Fin nth App InitE Pick SubE SubF SubG EvL EvD EvP EvR ResL Lf.Lex SubR SubBR RA RAll EvC FinO FinM ResM FinB ResD FinS val pw digs trimL

theorem cmp_cases (x y : Int) : (cmpI x y = -1 ∧ x < y) ∨ (cmpI x y = 0 ∧ x = y) ∨ (cmpI x y = 1 ∧ y < x) := by
  unfold cmpI
  split
  · exact .inl ⟨rfl, ‹_›⟩
  · split
    · exact .inr (.inr ⟨rfl, ‹_›⟩)
    · exact .inr (.inl ⟨rfl, by omega⟩)
theorem txt_inj {x y : Int} (hx : okZ x) (hy : okZ y) (h : txtZ x = txtZ y) : x = y := by
  have h1 := read_txt hx
  rw [h, read_txt hy] at h1
  exact (congrArg Prod.fst h1).symm
theorem mul30 {x y : Int} (hx : -1073741824 < x ∧ x < 1073741824) (hy : -1073741824 < y ∧ y < 1073741824) : -1152921504606846976 < x * y ∧ x * y < 1152921504606846976 := by
  have h : (x * y).natAbs < 1073741824 * 1073741824 := by
    rw [Int.natAbs_mul]
    exact Nat.mul_lt_mul'' (by omega) (by omega)
  omega
theorem mul64 {x y : Int} (hx : i64B x) (hy : i64B y) : mag (x * y) < pw 10 := by
  have h : (x * y).natAbs ≤ 9223372036854775808 * 9223372036854775808 := by
    rw [Int.natAbs_mul]
    unfold i64B at hx hy
    exact Nat.mul_le_mul (by omega) (by omega)
  have := sgn_cases (x * y)
  have e : pw 10 = 1606938044258990275541962092341162602522202993782792835301376 := by decide +kernel
  omega
set_option maxRecDepth 20000 in
theorem ints_ok (a b : Int) (ha : i64B a) (hb : i64B b) : GCalls Tryd.prog 2 powC 8 [cI a, cI b] (.pv (cB true)) := by
  have h0 := small_ok
  have ha' : -9223372036854775808 ≤ a ∧ a ≤ 9223372036854775807 := ha
  have oa := i64_ok ha
  have ob := i64_ok hb
  have ona := okZ_neg oa
  have e10 : pw 10 = 1606938044258990275541962092341162602522202993782792835301376 := by decide +kernel
  have os : okZ (a + b) := ok_of (by have := sgn_cases (a + b); unfold i64B at ha hb; omega)
  have od : okZ (a - b) := ok_of (by have := sgn_cases (a - b); unfold i64B at ha hb; omega)
  have op : okZ (a * b) := ok_of (mul64 ha hb)
  have z1 := ofZ_ok a ha
  have z2 := ofZ_ok b hb
  have i1 := intZ_ok a oa
  rw [show intV a = a from if_pos ha, decide_eq_true ha] at i1
  have n1 := neg_ok a oa
  have i2 := intZ_ok (-a) ona
  have hm : (if i64B (-a) then -a else 0) = (if a = -9223372036854775808 then 0 else -a) ∧ decide (i64B (-a)) = decide (a ≠ -9223372036854775808) := by
    have hq : i64B (-a) ↔ a ≠ -9223372036854775808 := by unfold i64B at ha ⊢; omega
    refine ⟨?_, decide_eq_decide.2 hq⟩
    by_cases h : a = -9223372036854775808
    · rw [if_pos h, if_neg (fun q => hq.1 q h)]
    · rw [if_neg h, if_pos (hq.2 h)]
  rw [hm.2] at i2
  have hm1 := hm.1
  replace hm1 : intV (-a) = if a = -9223372036854775808 then 0 else -a := hm1
  generalize intV (-a) = m at *
  have r1 := right_yes oa
  have t1 := text_ok a oa
  have t2 := text_ok b ob
  have ht : txtZ a = txtZ b ↔ a = b := ⟨txt_inj oa ob, fun h => by rw [h]⟩
  have s1 := addZ_ok a b oa ob
  rw [(full_yes os).1, (full_yes os).2] at s1
  have d1 := subZ_ok a b oa ob
  rw [(full_yes od).1, (full_yes od).2] at d1
  have p1 := mulZ_ok a b oa ob
  rw [(full_yes op).1, (full_yes op).2] at p1
  have k1 := cmpZ_ok a b oa ob
  have kc := cmp_cases a b
  generalize cmpI a b = c at *
  have hm2 : ¬ a = -9223372036854775808 → m = -a := fun h => by rw [hm1, if_neg h]
  generalize txtZ a = ta at *
  generalize txtZ b = tb at *
  have hbad : (¬ a = -9223372036854775808 ∧ ¬ m = -a) ∨ ¬ (ta = tb ↔ a = b) → False := fun h => h.elim (fun q => q.2 (hm2 q.1)) (fun q => q ht)
  have j1 := intZ_ok (a + b) os
  have j2 := intZ_ok (a - b) od
  have j3 := intZ_ok (a * b) op
  by_cases hh : (-1073741824 < a ∧ a < 1073741824) ∧ (-1073741824 < b ∧ b < 1073741824)
  · have hab := mul30 hh.1 hh.2
    have v1 : i64B (a + b) := by unfold i64B; omega
    have v2 : i64B (a - b) := by unfold i64B; omega
    have v3 : i64B (a * b) := by unfold i64B; omega
    rw [show intV (a + b) = a + b from if_pos v1, decide_eq_true v1] at j1
    rw [show intV (a - b) = a - b from if_pos v2, decide_eq_true v2] at j2
    rw [show intV (a * b) = a * b from if_pos v3, decide_eq_true v3] at j3
    refine GCalls.of_M TYok (qs := [cB true]) [.tmp 4] 188 Tryd.func8 (by kernel_rfl) rfl rfl rfl fun G hG => ?_
    refine W.initA (hw := ?_)
    repeat' (first
      | ((first | apply U_ | (apply Ug_; exact rfl; exact rfl) | (apply Ugq_; exact rfl; exact rfl) | apply Lex.u | (apply Lex.g; exact rfl; exact rfl) | (apply Lex.gq; exact rfl; exact rfl)); (first
    | exact QX.Move TYok
    | exact QX.Asg TYok
    | exact QX.Ld TYok
    | exact QX.Bin TYok
    | exact QX.Pick TYok
    | exact QX.Un TYok
    | exact QX.Ext TYok
    | (apply Q_callGd hG (h0); exact EvD.auto)
    | (apply Q_callG hG (h0); exact EvL.auto; exact rfl)
    | (apply Q_calld (z1); exact EvD.auto)
    | (apply Q_calld (z2); exact EvD.auto)
    | (apply Q_calld (i1); exact EvD.auto)
    | (apply Q_calld (n1); exact EvD.auto)
    | (apply Q_calld (i2); exact EvD.auto)
    | (apply Q_calld (r1); exact EvD.auto)
    | (apply Q_callGd hG (t1); exact EvD.auto)
    | (apply Q_callG hG (t1); exact EvL.auto; exact rfl)
    | (apply Q_callGd hG (t2); exact EvD.auto)
    | (apply Q_callG hG (t2); exact EvL.auto; exact rfl)
    | (apply Q_calld (s1); exact EvD.auto)
    | (apply Q_calld (d1); exact EvD.auto)
    | (apply Q_calld (p1); exact EvD.auto)
    | (apply Q_calld (k1); exact EvD.auto)
    | (apply Q_calld (j1); exact EvD.auto)
    | (apply Q_calld (j2); exact EvD.auto)
    | (apply Q_calld (j3); exact EvD.auto)); exact rfl)
      | refine SX.Alloc TYok (h := ?_)
      | refine SX.Store TYok (h := ?_)
      | apply RG.nil
      | apply Lex.nil
      | apply Then.n
      | apply Then.r
      | apply Then.x
      | apply InBlock.n
      | apply InBlock.r
      | apply InBlock.hit
      | (apply InBlock.miss; exact rfl)
      | apply W.seq
      | apply W.region
      | apply W.block
      | apply W.skip
      | apply W.ret
      | apply W.exit
      | (apply S_isnil TYok; exact rfl; exact rfl; exact rfl; exact Ev.auto; intro bn hnil)
      | (apply RG.gT; exact rfl; exact rfl; (first | assumption | decide))
      | (apply RG.gF; exact rfl; exact rfl; (first | assumption | decide | (rw [ne_eq, Bool.not_eq_true]; assumption) | (rw [ne_eq, Bool.not_eq_false]; assumption)); exact rfl)
      | (apply W.draw2 (id := 6) [0, 1, 3, 7, 15, 31, 63, 127, 255, 255, 1023, 2047, 4095, 8191, 8191, 24575, 65535, 131071, 262143, 524287, 1048575, 2097151, 2097151, 6291455, 16777215, 33554431, 67108863, 134217727, 268435455, 536870911, 268435455, 2147483647, 4294967295, 268435455, 268435455, 26038239231, 68719476735, 137438953471] [[6], [42], [43], [44], [9, 45], [46, 45], [45, 47], [48], [8, 49], [0, 49], [50, 51, 49], [49, 52], [53], [11, 54], [0, 54], [56, 54], [55, 57, 54], [54, 58], [59], [11, 60], [61, 60], [10, 62], [0, 62], [64, 62], [63, 65, 62], [62, 66, 60], [60, 67], [68], [6, 69], [70, 69], [7, 69], [72, 69], [71, 73, 69], [0, 69], [1, 69], [75, 76, 69], [74, 77, 69], [69, 78]] 38 [(42, 64), (43, 4398046511104), (44, 8796093022208), (45, 17592186044416), (46, 35184372089344), (47, 105553116266496), (48, 175921860444160), (49, 281474976710656), (50, 562949953421568), (51, 562949953421313), (52, 3940649673949184), (53, 5066549580791808), (54, 9007199254740992), (55, 18014398509484032), (56, 18014398509481985), (57, 90071992547409920), (58, 198158383604301824), (59, 306244774661193728), (60, 576460752303423488), (61, 1152921504606849024), (62, 3458764513820540928), (63, 4611686018427388928), (64, 4611686018427387905), (65, 23058430092136939520), (66, 50728546202701266944), (67, 79551583817872441344), (68, 148726874094283259904), (69, 295147905179352825856), (70, 590295810358705651776), (71, 1770887431076116955136), (72, 590295810358705651840), (73, 5312662293228350865408), (74, 12396212017532818685952), (75, 590295810358705651713), (76, 590295810358705651714), (77, 113927091399230190780416), (78, 170595489193665933344768), (79, 302821750714015999328256)] mixed (by kernel_rfl) rfl rfl)
      | (refine W.condA (ht := fun hb => ?_) (hf := fun hb => ?_) <;> (try simp at hb) <;> (try (exfalso; first | exact hbad hb | omega))))
    all_goals first
      | exact FinM.ret ResM.auto
      | (exfalso; exact hbad (by assumption))
      | (exfalso; omega)
      | exact FinM.ret (ResM.tmp rfl rfl (PSub.of_eq (congrArg (fun b => PV.one (Cell.bool b)) (by simp only [Bool.and_eq_true, Bool.or_eq_true, decide_eq_true_iff, true_and]; omega))) ResM.nil)
      | trace_state
  · clear j1 j2 j3
    have hneg : ¬ a = -9223372036854775808 → IntKind.i64.wrap (-a) = -a := fun h => i64_id (by omega)
    have hbad2 : (¬ a = -9223372036854775808 ∧ ¬ m = IntKind.i64.wrap (-a)) ∨ ¬ (ta = tb ↔ a = b) → False := fun h => h.elim (fun q => q.2 (by rw [hneg q.1, hm2 q.1])) (fun q => q ht)
    refine GCalls.of_M TYok (qs := [cB true]) [.tmp 4] 188 Tryd.func8 (by kernel_rfl) rfl rfl rfl fun G hG => ?_
    refine W.initA (hw := ?_)
    repeat' (first
      | ((first | apply U_ | (apply Ug_; exact rfl; exact rfl) | (apply Ugq_; exact rfl; exact rfl) | apply Lex.u | (apply Lex.g; exact rfl; exact rfl) | (apply Lex.gq; exact rfl; exact rfl)); (first
    | exact QX.Move TYok
    | exact QX.Asg TYok
    | exact QX.Ld TYok
    | exact QX.Bin TYok
    | exact QX.Pick TYok
    | exact QX.Un TYok
    | exact QX.Ext TYok
    | (apply Q_negw; exact Ev.auto)
    | (apply Q_callGd hG (h0); exact EvD.auto)
    | (apply Q_callG hG (h0); exact EvL.auto; exact rfl)
    | (apply Q_calld (z1); exact EvD.auto)
    | (apply Q_calld (z2); exact EvD.auto)
    | (apply Q_calld (i1); exact EvD.auto)
    | (apply Q_calld (n1); exact EvD.auto)
    | (apply Q_calld (i2); exact EvD.auto)
    | (apply Q_calld (r1); exact EvD.auto)
    | (apply Q_callGd hG (t1); exact EvD.auto)
    | (apply Q_callG hG (t1); exact EvL.auto; exact rfl)
    | (apply Q_callGd hG (t2); exact EvD.auto)
    | (apply Q_callG hG (t2); exact EvL.auto; exact rfl)
    | (apply Q_calld (s1); exact EvD.auto)
    | (apply Q_calld (d1); exact EvD.auto)
    | (apply Q_calld (p1); exact EvD.auto)
    | (apply Q_calld (k1); exact EvD.auto)); exact rfl)
      | refine SX.Alloc TYok (h := ?_)
      | refine SX.Store TYok (h := ?_)
      | apply RG.nil
      | apply Lex.nil
      | apply Then.n
      | apply Then.r
      | apply Then.x
      | apply InBlock.n
      | apply InBlock.r
      | apply InBlock.hit
      | (apply InBlock.miss; exact rfl)
      | apply W.seq
      | apply W.region
      | apply W.block
      | apply W.skip
      | apply W.ret
      | apply W.exit
      | (apply S_isnil TYok; exact rfl; exact rfl; exact rfl; exact Ev.auto; intro bn hnil)
      | (apply RG.gT; exact rfl; exact rfl; (first | assumption | decide))
      | (apply RG.gF; exact rfl; exact rfl; (first | assumption | decide | (rw [ne_eq, Bool.not_eq_true]; assumption) | (rw [ne_eq, Bool.not_eq_false]; assumption)); exact rfl)
      | (apply W.draw2 (id := 6) [0, 1, 3, 7, 15, 31, 63, 127, 255, 255, 1023, 2047, 4095, 8191, 8191, 24575, 65535, 131071, 262143, 524287, 1048575, 2097151, 2097151, 6291455, 16777215, 33554431, 67108863, 134217727, 268435455, 536870911, 268435455, 2147483647, 4294967295, 268435455, 268435455, 26038239231, 68719476735, 137438953471] [[6], [42], [43], [44], [9, 45], [46, 45], [45, 47], [48], [8, 49], [0, 49], [50, 51, 49], [49, 52], [53], [11, 54], [0, 54], [56, 54], [55, 57, 54], [54, 58], [59], [11, 60], [61, 60], [10, 62], [0, 62], [64, 62], [63, 65, 62], [62, 66, 60], [60, 67], [68], [6, 69], [70, 69], [7, 69], [72, 69], [71, 73, 69], [0, 69], [1, 69], [75, 76, 69], [74, 77, 69], [69, 78]] 38 [(42, 64), (43, 4398046511104), (44, 8796093022208), (45, 17592186044416), (46, 35184372089344), (47, 105553116266496), (48, 175921860444160), (49, 281474976710656), (50, 562949953421568), (51, 562949953421313), (52, 3940649673949184), (53, 5066549580791808), (54, 9007199254740992), (55, 18014398509484032), (56, 18014398509481985), (57, 90071992547409920), (58, 198158383604301824), (59, 306244774661193728), (60, 576460752303423488), (61, 1152921504606849024), (62, 3458764513820540928), (63, 4611686018427388928), (64, 4611686018427387905), (65, 23058430092136939520), (66, 50728546202701266944), (67, 79551583817872441344), (68, 148726874094283259904), (69, 295147905179352825856), (70, 590295810358705651776), (71, 1770887431076116955136), (72, 590295810358705651840), (73, 5312662293228350865408), (74, 12396212017532818685952), (75, 590295810358705651713), (76, 590295810358705651714), (77, 113927091399230190780416), (78, 170595489193665933344768), (79, 302821750714015999328256)] mixed (by kernel_rfl) rfl rfl)
      | (refine W.condA (ht := fun hb => ?_) (hf := fun hb => ?_) <;> (try simp at hb) <;> (try (exfalso; first | exact hbad2 hb | omega))))
    all_goals first
      | exact FinM.ret ResM.auto
      | (exfalso; exact hbad2 (by assumption))
      | (exfalso; omega)
      | exact FinM.ret (ResM.tmp rfl rfl (PSub.of_eq (congrArg (fun b => PV.one (Cell.bool b)) (by simp only [Bool.and_eq_true, Bool.or_eq_true, decide_eq_true_iff, true_and]; omega))) ResM.nil)
      | trace_state
end Go.Proofs.YtldgkgfkdipdeaaDoor
