/-
  Fractions: the law of the field.
-/
import Derived.Test.YtipghibmgfhmpaaGreatDoorWalk16
set_option linter.unusedVariables false
set_option linter.unusedSimpArgs false
set_option maxHeartbeats 8000000
namespace Go.Proofs.YtipghibmgfhmpaaGreatDoor
open Lf Go
attribute [local irreducible] PureOp EffOp Ev RG W Then InBlock Lf.Fin nth App InitE Pick SubE SubF SubG EvL EvD EvP EvR ResL Lf.Lex SubR SubBR RA RAll EvC FinO FinM ResM FinB ResD FinS val pw digs trimL

theorem mul_lt {x y : Int} {m n k : Nat} (hk : m + n = k) (hx : -pw m < x ∧ x < pw m) (hy : -pw n < y ∧ y < pw n) : -pw k < x * y ∧ x * y < pw k := by
  subst hk
  have h1 := pw_pos m
  have h2 := pw_pos n
  have h : (x * y).natAbs < (pw (m + n)).natAbs := by
    rw [pw_add, Int.natAbs_mul, Int.natAbs_mul]
    exact Nat.mul_lt_mul'' (by omega) (by omega)
  have := pw_pos (m + n)
  omega
def bd (r : Rat) (n : Nat) : Prop := (-pw n < r.num ∧ r.num < pw n) ∧ (-pw n < (r.den : Int) ∧ (r.den : Int) < pw n)
theorem bd_ok {r : Rat} {n : Nat} (h : bd r n) (hn : n ≤ 60) : okF r := by
  have := pw_mono hn
  obtain ⟨h1, h2⟩ := h
  exact ⟨okZ.of (by omega), okZ.of (by omega)⟩
theorem bd_div {x y : Int} {n : Nat} (h0 : y ≠ 0) (hx : -pw n < x ∧ x < pw n) (hy : -pw n < y ∧ y < pw n) : bd (Rat.divInt x y) n := by
  obtain ⟨h1, h2⟩ := divInt_le (x := x) h0
  have a := sgn_cases x
  have b := sgn_cases y
  have c := sgn_cases (Rat.divInt x y).num
  have d := sgn_cases ((Rat.divInt x y).den : Int)
  exact ⟨by omega, by omega⟩
theorem add_bd {a b : Rat} {m n k : Nat} (hk : m + n = k) (ha : bd a m) (hB : bd b n) (h60 : k + 1 ≤ 60) : bd (a + b) (k + 1) ∧ addOk a b := by
  have h1 := mul_lt hk ha.1 hB.2
  have h2 := mul_lt (m := n) (n := m) (k := k) (by omega) hB.1 ha.2
  have h3 := mul_lt hk ha.2 hB.2
  have e : pw (k + 1) = 1048576 * pw k := by rw [pw_succ]
  have hm := pw_mono h60
  have hp := pw_pos k
  refine ⟨?_, ⟨⟨okZ.of (by omega), okZ.of (by omega), okZ.of (by omega)⟩, okZ.of (by omega)⟩⟩
  rw [rat_add]
  exact bd_div (mul_ne (den_ne a) (den_ne b)) (by omega) (by omega)
theorem mul_bd {a b : Rat} {m n k : Nat} (hk : m + n = k) (ha : bd a m) (hB : bd b n) (h60 : k ≤ 60) : bd (a * b) k ∧ mulOk a b := by
  have h1 := mul_lt hk ha.1 hB.1
  have h3 := mul_lt hk ha.2 hB.2
  have hm := pw_mono h60
  refine ⟨?_, ⟨okZ.of (by omega), okZ.of (by omega)⟩⟩
  rw [rat_mul]
  exact bd_div (mul_ne (den_ne a) (den_ne b)) h1 h3
theorem neg_bd {b : Rat} {n : Nat} (h : bd b n) : bd (-b) n := by
  obtain ⟨h1, h2⟩ := h
  refine ⟨?_, ?_⟩
  · rw [Rat.neg_num]; omega
  · rw [Rat.neg_den]; exact h2
theorem div_ok' {a b : Rat} {m n k : Nat} (hk : m + n = k) (ha : bd a m) (hB : bd b n) (h60 : k ≤ 60) : divOk a b := by
  have h1 := mul_lt hk ha.1 hB.2
  have h3 := mul_lt hk ha.2 hB.1
  have hm := pw_mono h60
  exact ⟨okZ.of (by omega), okZ.of (by omega)⟩
theorem bd_of {r : Rat} {n : Nat} (h1 : (digs (mag r.num)).length ≤ n) (h2 : (digs (mag r.den)).length ≤ n) : bd r n := ⟨lt40 h1, lt40 h2⟩
theorem same_zero (a : Rat) (ha : okF a) : ACalls Tryz.prog 14 [zF0, zF a] (.pv (cB false)) := by
  have l1 := num_len ha.1
  have l2 := num_len ha.2
  have c := sgn_cases (a.den : Int)
  have hp := den_pos a
  have s1 := sameBig_ok 0 (sgn a.num) [] (digs (mag a.num)) (by decide) (by omega)
  have s2 := sameBig_ok 0 (sgn a.den) [] (digs (mag a.den)) (by decide) (by omega)
  rw [decide_eq_false (show ¬ (0 : Int) = sgn a.den by omega), Bool.false_and] at s2
  generalize (decide ((0 : Int) = sgn a.num) && decide (([] : List Int) = digs (mag a.num))) = w at *
  refine ACalls.of_W (qs := [cB false]) [4] 17 Tryz.func14 (by kernel_rfl) rfl rfl rfl fun G => ?_
  refine W.initA (hw := ?_)
  repeat' (first
    | ((first | apply U_ | (apply Ug_; exact rfl; exact rfl) | (apply Ugq_; exact rfl; exact rfl)); (first
    | exact QX.Move TYok
    | exact QX.Asg TYok
    | exact QX.Fld TYok
    | exact QX.Ld TYok
    | exact QX.Pick TYok
    | (apply Q_calld (s1); exact EvD.auto)
    | (apply Q_calld (s2); exact EvD.auto)); exact rfl)
    | refine SX.Box TYok (h := ?_)
    | apply RG.nil
    | apply Lex.nil
    | apply Then.n
    | apply Then.r
    | apply Then.x
    | apply InBlock.n
    | apply InBlock.r
    | apply InBlock.hit
    | (apply InBlock.miss; exact rfl)
    | apply W.seq
    | apply W.region
    | apply W.block
    | apply W.skip
    | apply W.ret
    | apply W.exit
    | (apply RG.gT; exact rfl; exact rfl; (first | assumption | decide))
    | (apply RG.gF; exact rfl; exact rfl; (first | assumption | decide | (rw [ne_eq, Bool.not_eq_true]; assumption) | (rw [ne_eq, Bool.not_eq_false]; assumption)); exact rfl)
    | (refine W.condA (ht := fun hb => ?_) (hf := fun hb => ?_) <;> (try simp at hb) <;> (try (exfalso; omega))))
  all_goals first
    | exact Fin.ret ResL.auto
    | (cases w <;> exact Fin.ret ResL.auto)
theorem rt (r : Rat) (h : okF r) : ACalls Tryz.prog 34 [zF r, cI 0] (.tup [zF r, cB true]) := by
  have := right_ok2 r h 0
  rwa [decide_eq_true rfl] at this
theorem sm (r : Rat) (h : okF r) : ACalls Tryz.prog 14 [zF r, zF r] (.pv (cB true)) := by
  have := same_ok r r h h
  rwa [decide_eq_true rfl] at this
theorem divInt01 : Rat.divInt 0 1 = 0 ∧ Rat.divInt 1 1 = 1 := by decide +kernel
attribute [local irreducible] sgn mag gcdZ quoZ remZ txtZ readF fullZ fullE Rat.divInt
set_option maxRecDepth 20000 in
theorem field_ok (s1 s1' s2 s2' s3 s3' : Int) (l1 l1' l2 l2' l3 l3' : List Int) (h1 : l1.length ≤ 9223372036854775807 ∧ l1'.length ≤ 9223372036854775807) (h2 : l2.length ≤ 9223372036854775807 ∧ l2'.length ≤ 9223372036854775807) (h3 : l3.length ≤ 9223372036854775807 ∧ l3'.length ≤ 9223372036854775807) : GCalls Tryz.prog 3 powC 4 [fB s1 l1 s1' l1', fB s2 l2 s2' l2', fB s3 l3 s3' l3'] (.pv (cB true)) := by
  have h0 := small_ok
  have f1 := few_ok s1 l1 s1' l1' 6 h1.1 h1.2
  have f2 := few_ok s2 l2 s2' l2' 6 h2.1 h2.2
  have f3 := few_ok s3 l3 s3' l3' 6 h3.1 h3.2
  have r1 := fright_ok s1 l1 s1' l1' h1.1 h1.2
  have r2 := fright_ok s2 l2 s2' l2' h2.1 h2.2
  have r3 := fright_ok s3 l3 s3' l3' h3.1 h3.2
  by_cases hw : (((((decide ((l1.length : Int) ≤ 6) && decide ((l1'.length : Int) ≤ 6)) = true ∧ (decide ((l2.length : Int) ≤ 6) && decide ((l2'.length : Int) ≤ 6)) = true) ∧ (decide ((l3.length : Int) ≤ 6) && decide ((l3'.length : Int) ≤ 6)) = true) ∧ rightFB s1 l1 s1' l1' = true) ∧ rightFB s2 l2 s2' l2' = true) ∧ rightFB s3 l3 s3' l3' = true
  case neg =>
    generalize (decide ((l1.length : Int) ≤ 6) && decide ((l1'.length : Int) ≤ 6)) = b1 at *
    generalize (decide ((l2.length : Int) ≤ 6) && decide ((l2'.length : Int) ≤ 6)) = b2 at *
    generalize (decide ((l3.length : Int) ≤ 6) && decide ((l3'.length : Int) ≤ 6)) = b3 at *
    generalize rightFB s1 l1 s1' l1' = c1 at *
    generalize rightFB s2 l2 s2' l2' = c2 at *
    generalize rightFB s3 l3 s3' l3' = c3 at *
    refine GCalls.of_M TYok (qs := [cB true]) [.tmp 6] 333 Tryz.func4 (by kernel_rfl) rfl rfl rfl fun G hG => ?_
    refine W.initA (hw := ?_)
    repeat' (first
      | ((first | apply U_ | (apply Ug_; exact rfl; exact rfl) | (apply Ugq_; exact rfl; exact rfl)); (first
    | exact QX.Move TYok
    | exact QX.Asg TYok
    | exact QX.Fld TYok
    | exact QX.Ld TYok
    | exact QX.Bin TYok
    | exact QX.Pick TYok
    | exact QX.Un TYok
    | exact QX.Ext TYok
    | (apply Q_callGd hG (h0); exact EvD.auto)
    | (apply Q_callG hG (h0); exact EvL.auto; exact rfl)
    | (apply Q_calld (f1); exact EvD.auto)
    | (apply Q_calld (f2); exact EvD.auto)
    | (apply Q_calld (f3); exact EvD.auto)
    | (apply Q_calld (r1); exact EvD.auto)
    | (apply Q_calld (r2); exact EvD.auto)
    | (apply Q_calld (r3); exact EvD.auto)); exact rfl)
      | refine SX.Alloc TYok (h := ?_)
      | refine SX.Store TYok (h := ?_)
      | refine SX.Box TYok (h := ?_)
      | apply RG.nil
      | apply Lex.nil
      | apply Then.n
      | apply Then.r
      | apply Then.x
      | apply InBlock.n
      | apply InBlock.r
      | apply InBlock.hit
      | (apply InBlock.miss; exact rfl)
      | apply W.seq
      | apply W.region
      | apply W.block
      | apply W.skip
      | apply W.ret
      | apply W.exit
      | (apply S_isnil TYok; exact rfl; exact rfl; exact rfl; exact Ev.auto; intro bn hnil)
      | (apply RG.gT; exact rfl; exact rfl; (first | assumption | decide))
      | (apply RG.gF; exact rfl; exact rfl; (first | assumption | decide | (rw [ne_eq, Bool.not_eq_true]; assumption) | (rw [ne_eq, Bool.not_eq_false]; assumption)); exact rfl)
      | (refine W.drawA (id := 21) (L := [false, false, false, false, false, false, false, false, false, false, false, false]) mixed rfl ?_)
      | exact RAll.nil
      | (refine RAll.cons rfl ?_ ?_)
      | (refine RA.step (L := [false, false, false, false, false, false, false, false, false, false, false, false]) (i := 0) (is := [1, 9]) (by kernel_rfl) ?_)
      | (refine RA.step (L := [false, false, false, false, false, false, false, false, false, true, false, false]) (i := 0) (is := [1]) (by kernel_rfl) ?_)
      | (refine RA.step (L := [false, true, false, false, false, false, false, false, false, true, false, false]) (i := 0) (is := []) (by kernel_rfl) ?_)
      | (refine RA.step (L := [true, true, false, false, false, false, false, false, false, true, false, false]) (i := 2) (is := []) (by kernel_rfl) ?_)
      | (refine RA.step (L := [true, true, true, false, false, false, false, false, false, true, false, false]) (i := 3) (is := [4]) (by kernel_rfl) ?_)
      | (refine RA.step (L := [true, true, true, false, true, false, false, false, false, true, false, false]) (i := 3) (is := []) (by kernel_rfl) ?_)
      | (refine RA.step (L := [true, true, true, true, true, false, false, false, false, true, false, false]) (i := 5) (is := []) (by kernel_rfl) ?_)
      | (refine RA.step (L := [true, true, true, true, true, true, false, false, false, true, false, false]) (i := 6) (is := []) (by kernel_rfl) ?_)
      | (refine RA.step (L := [true, true, true, true, true, true, true, false, false, true, false, false]) (i := 7) (is := [8]) (by kernel_rfl) ?_)
      | (refine RA.step (L := [true, true, true, true, true, true, true, false, true, true, false, false]) (i := 7) (is := []) (by kernel_rfl) ?_)
      | (refine RA.step (L := [true, true, true, true, true, true, true, true, true, true, false, false]) (i := 10) (is := []) (by kernel_rfl) ?_)
      | (refine RA.step (L := [true, true, true, true, true, true, true, true, true, true, true, false]) (i := 11) (is := []) (by kernel_rfl) ?_)
      | (refine RA.done (L := [true, true, true, true, true, true, true, true, true, true, true, true]) (by kernel_rfl) ?_)
      | (refine RA.step (L := [true, true, true, true, true, true, true, true, false, true, false, false]) (i := 8) (is := [10]) (by kernel_rfl) ?_)
      | (refine RA.step (L := [true, true, true, true, true, true, true, true, false, true, true, false]) (i := 8) (is := []) (by kernel_rfl) ?_)
      | (refine RA.step (L := [true, true, true, true, false, false, false, false, false, true, false, false]) (i := 4) (is := []) (by kernel_rfl) ?_)
      | (refine RA.step (L := [true, false, false, false, false, false, false, false, false, true, false, false]) (i := 1) (is := []) (by kernel_rfl) ?_)
      | (refine RA.step (L := [false, true, false, false, false, false, false, false, false, false, false, false]) (i := 0) (is := [9]) (by kernel_rfl) ?_)
      | (refine RA.step (L := [true, true, false, false, false, false, false, false, false, false, false, false]) (i := 2) (is := [9]) (by kernel_rfl) ?_)
      | (refine RA.step (L := [true, true, true, false, false, false, false, false, false, false, false, false]) (i := 3) (is := [4, 9]) (by kernel_rfl) ?_)
      | (refine RA.step (L := [true, true, true, false, true, false, false, false, false, false, false, false]) (i := 3) (is := [9]) (by kernel_rfl) ?_)
      | (refine RA.step (L := [true, true, true, true, true, false, false, false, false, false, false, false]) (i := 5) (is := [9]) (by kernel_rfl) ?_)
      | (refine RA.step (L := [true, true, true, true, true, true, false, false, false, false, false, false]) (i := 6) (is := [9]) (by kernel_rfl) ?_)
      | (refine RA.step (L := [true, true, true, true, true, true, true, false, false, false, false, false]) (i := 7) (is := [8, 9]) (by kernel_rfl) ?_)
      | (refine RA.step (L := [true, true, true, true, true, true, true, false, true, false, false, false]) (i := 7) (is := [9]) (by kernel_rfl) ?_)
      | (refine RA.step (L := [true, true, true, true, true, true, true, true, true, false, false, false]) (i := 9) (is := []) (by kernel_rfl) ?_)
      | (refine RA.step (L := [true, true, true, true, true, true, true, true, false, false, false, false]) (i := 8) (is := [9]) (by kernel_rfl) ?_)
      | (refine RA.step (L := [true, true, true, true, false, false, false, false, false, false, false, false]) (i := 4) (is := [9]) (by kernel_rfl) ?_)
      | (refine RA.step (L := [true, false, false, false, false, false, false, false, false, false, false, false]) (i := 1) (is := [9]) (by kernel_rfl) ?_)
      | (refine W.drawA (id := 22) (L := [false, false, false, false, false, false, false, false, false, false, false, false]) mixed rfl ?_)
      | exact RAll.nil
      | (refine RAll.cons rfl ?_ ?_)
      | (refine RA.step (L := [false, false, false, false, false, false, false, false, false, false, false, false]) (i := 0) (is := [1, 9]) (by kernel_rfl) ?_)
      | (refine RA.step (L := [false, false, false, false, false, false, false, false, false, true, false, false]) (i := 0) (is := [1]) (by kernel_rfl) ?_)
      | (refine RA.step (L := [false, true, false, false, false, false, false, false, false, true, false, false]) (i := 0) (is := []) (by kernel_rfl) ?_)
      | (refine RA.step (L := [true, true, false, false, false, false, false, false, false, true, false, false]) (i := 2) (is := []) (by kernel_rfl) ?_)
      | (refine RA.step (L := [true, true, true, false, false, false, false, false, false, true, false, false]) (i := 3) (is := [4]) (by kernel_rfl) ?_)
      | (refine RA.step (L := [true, true, true, false, true, false, false, false, false, true, false, false]) (i := 3) (is := []) (by kernel_rfl) ?_)
      | (refine RA.step (L := [true, true, true, true, true, false, false, false, false, true, false, false]) (i := 5) (is := []) (by kernel_rfl) ?_)
      | (refine RA.step (L := [true, true, true, true, true, true, false, false, false, true, false, false]) (i := 6) (is := []) (by kernel_rfl) ?_)
      | (refine RA.step (L := [true, true, true, true, true, true, true, false, false, true, false, false]) (i := 7) (is := [8]) (by kernel_rfl) ?_)
      | (refine RA.step (L := [true, true, true, true, true, true, true, false, true, true, false, false]) (i := 7) (is := []) (by kernel_rfl) ?_)
      | (refine RA.step (L := [true, true, true, true, true, true, true, true, true, true, false, false]) (i := 10) (is := []) (by kernel_rfl) ?_)
      | (refine RA.step (L := [true, true, true, true, true, true, true, true, true, true, true, false]) (i := 11) (is := []) (by kernel_rfl) ?_)
      | (refine RA.done (L := [true, true, true, true, true, true, true, true, true, true, true, true]) (by kernel_rfl) ?_)
      | (refine RA.step (L := [true, true, true, true, true, true, true, true, false, true, false, false]) (i := 8) (is := [10]) (by kernel_rfl) ?_)
      | (refine RA.step (L := [true, true, true, true, true, true, true, true, false, true, true, false]) (i := 8) (is := []) (by kernel_rfl) ?_)
      | (refine RA.step (L := [true, true, true, true, false, false, false, false, false, true, false, false]) (i := 4) (is := []) (by kernel_rfl) ?_)
      | (refine RA.step (L := [true, false, false, false, false, false, false, false, false, true, false, false]) (i := 1) (is := []) (by kernel_rfl) ?_)
      | (refine RA.step (L := [false, true, false, false, false, false, false, false, false, false, false, false]) (i := 0) (is := [9]) (by kernel_rfl) ?_)
      | (refine RA.step (L := [true, true, false, false, false, false, false, false, false, false, false, false]) (i := 2) (is := [9]) (by kernel_rfl) ?_)
      | (refine RA.step (L := [true, true, true, false, false, false, false, false, false, false, false, false]) (i := 3) (is := [4, 9]) (by kernel_rfl) ?_)
      | (refine RA.step (L := [true, true, true, false, true, false, false, false, false, false, false, false]) (i := 3) (is := [9]) (by kernel_rfl) ?_)
      | (refine RA.step (L := [true, true, true, true, true, false, false, false, false, false, false, false]) (i := 5) (is := [9]) (by kernel_rfl) ?_)
      | (refine RA.step (L := [true, true, true, true, true, true, false, false, false, false, false, false]) (i := 6) (is := [9]) (by kernel_rfl) ?_)
      | (refine RA.step (L := [true, true, true, true, true, true, true, false, false, false, false, false]) (i := 7) (is := [8, 9]) (by kernel_rfl) ?_)
      | (refine RA.step (L := [true, true, true, true, true, true, true, false, true, false, false, false]) (i := 7) (is := [9]) (by kernel_rfl) ?_)
      | (refine RA.step (L := [true, true, true, true, true, true, true, true, true, false, false, false]) (i := 9) (is := []) (by kernel_rfl) ?_)
      | (refine RA.step (L := [true, true, true, true, true, true, true, true, false, false, false, false]) (i := 8) (is := [9]) (by kernel_rfl) ?_)
      | (refine RA.step (L := [true, true, true, true, false, false, false, false, false, false, false, false]) (i := 4) (is := [9]) (by kernel_rfl) ?_)
      | (refine RA.step (L := [true, false, false, false, false, false, false, false, false, false, false, false]) (i := 1) (is := [9]) (by kernel_rfl) ?_)
      | (refine W.condA (ht := fun hb => ?_) (hf := fun hb => ?_) <;> (try simp at hb) <;> (try (exfalso; first | exact hw hb | omega))))
    all_goals exact FinM.ret ResM.auto
  obtain ⟨⟨⟨⟨⟨w1, w2⟩, w3⟩, q1⟩, q2⟩, q3⟩ := hw
  rw [w1] at f1
  rw [w2] at f2
  rw [w3] at f3
  rw [q1] at r1
  rw [q2] at r2
  rw [q3] at r3
  obtain ⟨a, oa, rfl, rfl, rfl, rfl⟩ := frac_of q1
  obtain ⟨b, ob, rfl, rfl, rfl, rfl⟩ := frac_of q2
  obtain ⟨c, oc, rfl, rfl, rfl, rfl⟩ := frac_of q3
  simp only [Bool.and_eq_true, decide_eq_true_iff] at w1 w2 w3
  have da : bd a 6 := bd_of (by omega) (by omega)
  have db : bd b 6 := bd_of (by omega) (by omega)
  have dc : bd c 6 := bd_of (by omega) (by omega)
  obtain ⟨dab, kab⟩ := add_bd (k := 12) rfl da db (by decide)
  obtain ⟨_, kba⟩ := add_bd (k := 12) rfl db da (by decide)
  obtain ⟨dbc, kbc⟩ := add_bd (k := 12) rfl db dc (by decide)
  obtain ⟨dabc, kab_c⟩ := add_bd (k := 19) rfl dab dc (by decide)
  obtain ⟨_, ka_bc⟩ := add_bd (k := 19) rfl da dbc (by decide)
  obtain ⟨em, jm⟩ := mul_bd (k := 12) rfl da db (by decide)
  obtain ⟨_, jm2⟩ := mul_bd (k := 12) rfl db da (by decide)
  obtain ⟨ebc, jbc⟩ := mul_bd (k := 12) rfl db dc (by decide)
  obtain ⟨emc, jmc⟩ := mul_bd (k := 18) rfl em dc (by decide)
  obtain ⟨_, jma⟩ := mul_bd (k := 18) rfl da ebc (by decide)
  obtain ⟨eac, jac⟩ := mul_bd (k := 12) rfl da dc (by decide)
  obtain ⟨eabc, jabc⟩ := mul_bd (k := 19) rfl dab dc (by decide)
  obtain ⟨_, ky⟩ := add_bd (k := 24) rfl eac ebc (by decide)
  have d0 : bd (0 : Rat) 1 := by unfold bd; decide +kernel
  have d1 : bd (1 : Rat) 1 := by unfold bd; decide +kernel
  obtain ⟨_, k0⟩ := add_bd (k := 7) rfl da d0 (by decide)
  obtain ⟨_, j1⟩ := mul_bd (k := 7) rfl da d1 (by decide)
  obtain ⟨_, ks⟩ := add_bd (k := 19) rfl dab (neg_bd db) (by decide)
  have kd := div_ok' (k := 18) rfl em db (by decide)
  have oab := bd_ok dab (by decide)
  have obc := bd_ok dbc (by decide)
  have oabc := bd_ok dabc (by decide)
  have om := bd_ok em (by decide)
  have ombc := bd_ok ebc (by decide)
  have omc := bd_ok emc (by decide)
  have oac := bd_ok eac (by decide)
  have ox := bd_ok eabc (by decide)
  have o0 := bd_ok d0 (by decide)
  have o1 := bd_ok d1 (by decide)
  have p1 := add_yes a b oa ob kab
  have p2 := add_yes b a ob oa kba
  rw [show b + a = a + b by grind] at p2
  have p3 := add_yes b c ob oc kbc
  have p4 := add_yes (a + b) c oab oc kab_c
  have p5 := add_yes a (b + c) oa obc ka_bc
  rw [show a + (b + c) = a + b + c by grind] at p5
  have n1 := fmul_yes a b oa ob jm
  have n2 := fmul_yes b a ob oa jm2
  rw [show b * a = a * b by grind] at n2
  have n3 := fmul_yes b c ob oc jbc
  have n4 := fmul_yes (a * b) c om oc jmc
  have n5 := fmul_yes a (b * c) oa ombc jma
  rw [show a * (b * c) = a * b * c by grind] at n5
  have n6 := fmul_yes a c oa oc jac
  have n7 := fmul_yes (a + b) c oab oc jabc
  have p6 := add_yes (a * c) (b * c) oac ombc ky
  rw [show a * c + b * c = (a + b) * c by grind] at p6
  have p7 := add_yes a 0 oa o0 k0
  rw [show a + 0 = a by grind] at p7
  have n8 := fmul_yes a 1 oa o1 j1
  rw [show a * 1 = a by grind] at n8
  have p8 := fsub_yes (a + b) b oab ob ks
  rw [show a + b - b = a by grind] at p8
  have i64 : ∀ n : Int, -9 ≤ n → n ≤ 9 → i64B n := fun n h h' => by unfold i64B; omega
  have z0 := of_ok 0 1 (i64 _ (by decide) (by decide)) (i64 _ (by decide) (by decide)) (by decide)
  have z1 := of_ok 1 1 (i64 _ (by decide) (by decide)) (i64 _ (by decide) (by decide)) (by decide)
  rw [divInt01.1] at z0
  rw [divInt01.2] at z1
  have cb := sgn_cases b.num
  have t1 := rt _ oab
  have t2 := rt _ obc
  have t3 := rt _ oabc
  have t4 := rt _ om
  have t5 := rt _ ombc
  have t6 := rt _ omc
  have t7 := rt _ oac
  have t8 := rt _ ox
  have t9 := rt _ oa
  have u1 := sm _ oab
  have u2 := sm _ oabc
  have u3 := sm _ om
  have u4 := sm _ omc
  have u5 := sm _ ox
  have u6 := sm _ oa
  by_cases hz : b.num = 0
  · have n9 := fdiv_zero (a * b) b om ob hz
    have u7 := same_zero a oa
    clear kab kba kbc kab_c ka_bc jm jm2 jbc jmc jma jac jabc ky k0 j1 ks kd
    generalize a * b * c = M4 at *
    generalize (a + b) * c = X at *
    generalize a + b + c = A4 at *
    generalize a + b = A1 at *
    generalize b + c = A3 at *
    generalize a * b = M1 at *
    generalize b * c = M3 at *
    generalize a * c = N1 at *
    generalize (0 : Rat) = R0 at *
    generalize (1 : Rat) = R1 at *
    refine GCalls.of_M TYok (qs := [cB true]) [.tmp 6] 333 Tryz.func4 (by kernel_rfl) rfl rfl rfl fun G hG => ?_
    refine W.initA (hw := ?_)
    repeat' (first
      | (refine W.purgeR [(4, [3, 4, 5, 7]), (5, [3, 4, 5, 7, 8, 9]), (6, [3, 4, 5, 7, 8, 9, 10, 11]), (7, [3, 4, 5, 7, 8, 9, 10, 11, 12, 13]), (8, [3, 4, 5, 7, 8, 9, 10, 11, 12, 13, 14, 15]), (9, [3, 4, 5, 7, 8, 9, 10, 11, 13, 14, 15, 16, 17]), (11, [3, 4, 5, 7, 8, 14, 16]), (12, [3, 4, 5, 7, 8, 9, 14, 16, 18]), (13, [3, 4, 5, 7, 8, 9, 11, 14, 16, 18, 19]), (14, [3, 4, 5, 7, 8, 9, 11, 13, 14, 16, 18, 19, 20]), (15, [3, 4, 5, 7, 8, 9, 11, 13, 14, 15, 16, 18, 19, 20]), (16, [3, 4, 5, 7, 8, 9, 11, 13, 14, 15, 16, 17, 18, 19, 20]), (18, [3, 4, 5, 7, 8, 14, 16, 18, 20]), (19, [3, 4, 5, 7, 8, 9, 14, 16, 18, 20, 21]), (20, [3, 4, 7, 8, 9, 11, 14, 16, 18, 20, 21]), (21, [3, 4, 7, 8, 9, 11, 13, 14, 16, 18]), (22, [3, 4, 7, 8, 9, 11, 13, 14, 15, 16, 18, 22]), (23, [3, 4, 7, 8, 9, 11, 13, 14, 15, 16, 17, 18, 22, 23]), (25, [3, 4, 7, 8, 14, 16, 18]), (26, [3, 4, 7, 9, 14, 16, 18]), (27, [3, 4, 7, 9, 14, 16, 24]), (28, [3, 7, 9, 14, 16, 24, 25])] rfl (by repeat (first | exact PN.nil | apply PN.po rfl | (apply PN.pa; exact rfl; (repeat (first | (apply NR.cons; exact rfl) | exact NR.nil rfl))) | apply PN.a rfl | apply PN.s rfl | apply PN.u rfl | apply PN.m rfl | apply PN.k rfl | apply PN.i rfl | apply PN.skip)) (by repeat (first | exact PB.nil | (apply PB.one; exact rfl; (focus (first | (dsimp only; done) | (dsimp only; exact rfl) | exact rfl)); (focus (first | (dsimp only; done) | (dsimp only; exact rfl) | exact rfl)); exact rfl; (repeat (first | (apply NR.cons; exact rfl) | exact NR.nil rfl)))  | apply PB.cons rfl)) ?_)
      | ((first | apply U_ | (apply Ug_; exact rfl; exact rfl) | (apply Ugq_; exact rfl; exact rfl)); (first
    | exact QX.Move TYok
    | exact QX.Asg TYok
    | exact QX.Fld TYok
    | exact QX.Ld TYok
    | exact QX.Bin TYok
    | exact QX.Pick TYok
    | exact QX.Un TYok
    | exact QX.Ext TYok
    | (apply Q_callGd hG (h0); exact EvD.auto)
    | (apply Q_callG hG (h0); exact EvL.auto; exact rfl)
    | (apply Q_calld (f1); exact EvD.auto)
    | (apply Q_calld (f2); exact EvD.auto)
    | (apply Q_calld (f3); exact EvD.auto)
    | (apply Q_calld (r1); exact EvD.auto)
    | (apply Q_calld (r2); exact EvD.auto)
    | (apply Q_calld (r3); exact EvD.auto)
    | (apply Q_calld (p1); exact EvD.auto)
    | (apply Q_calld (p2); exact EvD.auto)
    | (apply Q_calld (p3); exact EvD.auto)
    | (apply Q_calld (p4); exact EvD.auto)
    | (apply Q_calld (p5); exact EvD.auto)
    | (apply Q_calld (p6); exact EvD.auto)
    | (apply Q_calld (p7); exact EvD.auto)
    | (apply Q_calld (p8); exact EvD.auto)
    | (apply Q_calld (n1); exact EvD.auto)
    | (apply Q_calld (n2); exact EvD.auto)
    | (apply Q_calld (n3); exact EvD.auto)
    | (apply Q_calld (n4); exact EvD.auto)
    | (apply Q_calld (n5); exact EvD.auto)
    | (apply Q_calld (n6); exact EvD.auto)
    | (apply Q_calld (n7); exact EvD.auto)
    | (apply Q_calld (n8); exact EvD.auto)
    | (apply Q_calld (n9); exact EvD.auto)
    | (apply Q_calld (z0); exact EvD.auto)
    | (apply Q_calld (z1); exact EvD.auto)
    | (apply Q_calld (t1); exact EvD.auto)
    | (apply Q_calld (t2); exact EvD.auto)
    | (apply Q_calld (t3); exact EvD.auto)
    | (apply Q_calld (t4); exact EvD.auto)
    | (apply Q_calld (t5); exact EvD.auto)
    | (apply Q_calld (t6); exact EvD.auto)
    | (apply Q_calld (t7); exact EvD.auto)
    | (apply Q_calld (t8); exact EvD.auto)
    | (apply Q_calld (t9); exact EvD.auto)
    | (apply Q_calld (u1); exact EvD.auto)
    | (apply Q_calld (u2); exact EvD.auto)
    | (apply Q_calld (u3); exact EvD.auto)
    | (apply Q_calld (u4); exact EvD.auto)
    | (apply Q_calld (u5); exact EvD.auto)
    | (apply Q_calld (u6); exact EvD.auto)
    | (apply Q_calld (u7); exact EvD.auto)); exact rfl)
      | refine SX.Alloc TYok (h := ?_)
      | refine SX.Store TYok (h := ?_)
      | refine SX.Box TYok (h := ?_)
      | apply RG.nil
      | apply Lex.nil
      | apply Then.n
      | apply Then.r
      | apply Then.x
      | apply InBlock.n
      | apply InBlock.r
      | apply InBlock.hit
      | (apply InBlock.miss; exact rfl)
      | apply W.seq
      | apply W.region
      | apply W.block
      | apply W.skip
      | apply W.ret
      | apply W.exit
      | (apply S_isnil TYok; exact rfl; exact rfl; exact rfl; exact Ev.auto; intro bn hnil)
      | (apply RG.gT; exact rfl; exact rfl; (first | assumption | decide))
      | (apply RG.gF; exact rfl; exact rfl; (first | assumption | decide | (rw [ne_eq, Bool.not_eq_true]; assumption) | (rw [ne_eq, Bool.not_eq_false]; assumption)); exact rfl)
      | apply LexS.nil
      | (apply LexS.f; exact rfl; (first | (apply FreshV.alloc TYok; exact rfl; exact rfl; exact rfl; exact rfl) | (apply FreshV.lit TYok; (repeat (first | exact EvR.nil | apply EvR.cons Ev.auto)); exact rfl; exact rfl; exact rfl; exact rfl; exact rfl; exact rfl; exact rfl; exact rfl; exact rfl) | (apply FreshV.box; exact Ev.auto; exact rfl; exact rfl; exact rfl)); exact rfl; exact rfl; exact rfl)
      | (apply LexS.s; exact rfl; exact rfl; (apply StoreV.mk TYok; exact Ev.auto; exact Ev.auto; exact rfl; exact rfl; exact rfl; exact rfl; exact rfl))
      | ((first | apply LexS.u | (apply LexS.g; exact rfl; exact rfl) | (apply LexS.gq; exact rfl; exact rfl)); (repeat (first | (apply NB.cons; exact rfl) | exact NB.nil rfl)); (first | exact QX.Move TYok | exact QX.Asg TYok | exact QX.Fld TYok | exact QX.Ld TYok | exact QX.Bin TYok | exact QX.Pick TYok | exact QX.Un TYok | exact QX.Ext TYok | (apply Q_callGd hG (h0); exact EvD.auto) | (apply Q_callG hG (h0); exact EvL.auto; exact rfl) | (apply Q_calld (f1); exact EvD.auto) | (apply Q_calld (f2); exact EvD.auto) | (apply Q_calld (f3); exact EvD.auto) | (apply Q_calld (r1); exact EvD.auto) | (apply Q_calld (r2); exact EvD.auto) | (apply Q_calld (r3); exact EvD.auto) | (apply Q_calld (p1); exact EvD.auto) | (apply Q_calld (p2); exact EvD.auto) | (apply Q_calld (p3); exact EvD.auto) | (apply Q_calld (p4); exact EvD.auto) | (apply Q_calld (p5); exact EvD.auto) | (apply Q_calld (p6); exact EvD.auto) | (apply Q_calld (p7); exact EvD.auto) | (apply Q_calld (p8); exact EvD.auto) | (apply Q_calld (n1); exact EvD.auto) | (apply Q_calld (n2); exact EvD.auto) | (apply Q_calld (n3); exact EvD.auto) | (apply Q_calld (n4); exact EvD.auto) | (apply Q_calld (n5); exact EvD.auto) | (apply Q_calld (n6); exact EvD.auto) | (apply Q_calld (n7); exact EvD.auto) | (apply Q_calld (n8); exact EvD.auto) | (apply Q_calld (n9); exact EvD.auto) | (apply Q_calld (z0); exact EvD.auto) | (apply Q_calld (z1); exact EvD.auto) | (apply Q_calld (t1); exact EvD.auto) | (apply Q_calld (t2); exact EvD.auto) | (apply Q_calld (t3); exact EvD.auto) | (apply Q_calld (t4); exact EvD.auto) | (apply Q_calld (t5); exact EvD.auto) | (apply Q_calld (t6); exact EvD.auto) | (apply Q_calld (t7); exact EvD.auto) | (apply Q_calld (t8); exact EvD.auto) | (apply Q_calld (t9); exact EvD.auto) | (apply Q_calld (u1); exact EvD.auto) | (apply Q_calld (u2); exact EvD.auto) | (apply Q_calld (u3); exact EvD.auto) | (apply Q_calld (u4); exact EvD.auto) | (apply Q_calld (u5); exact EvD.auto) | (apply Q_calld (u6); exact EvD.auto) | (apply Q_calld (u7); exact EvD.auto)); exact rfl; exact rfl; exact rfl)
      | (refine W.drawS (id := 21) [0, 0, 3, 7, 7, 31, 63, 127, 127, 0, 767, 2047] [[3], [], [234, 235], [236], [236], [237, 238], [239], [233], [233], [], [22, 240], [241]] [(10, (22, ?_)), (9, (22, ?_))] [(10, 22), (9, 22)] mixed (by kernel_rfl) rfl ?_; rotate_left 2)
      | (refine W.drawS (id := 22) [0, 0, 3, 7, 7, 31, 63, 127, 127, 0, 767, 2047] [[3], [], [243, 244], [245], [245], [246, 247], [248], [242], [242], [], [23, 249], [250]] [(10, (23, ?_)), (9, (23, ?_))] [(10, 23), (9, 23)] mixed (by kernel_rfl) rfl ?_; rotate_left 2)
      | (refine W.condA (ht := fun hb => ?_) (hf := fun hb => ?_) <;> (try simp at hb) <;> (try (exfalso; omega))))
    all_goals first
      | exact FinM.ret ResM.auto
      | exact FinM.ret (ResM.tmp rfl rfl (PSub.of_eq (congrArg (fun b => PV.one (Cell.bool b)) (by rw [decide_eq_true (show sgn b.num = 0 by omega)]; rfl))) ResM.nil)
      | trace_state
  · have n9 := fdiv_yes (a * b) b om ob hz kd
    have hb0 : b ≠ 0 := fun h => hz (by rw [h]; rfl)
    rw [show a * b / b = a by grind] at n9
    clear kab kba kbc kab_c ka_bc jm jm2 jbc jmc jma jac jabc ky k0 j1 ks kd
    generalize a * b * c = M4 at *
    generalize (a + b) * c = X at *
    generalize a + b + c = A4 at *
    generalize a + b = A1 at *
    generalize b + c = A3 at *
    generalize a * b = M1 at *
    generalize b * c = M3 at *
    generalize a * c = N1 at *
    generalize (0 : Rat) = R0 at *
    generalize (1 : Rat) = R1 at *
    refine GCalls.of_M TYok (qs := [cB true]) [.tmp 6] 333 Tryz.func4 (by kernel_rfl) rfl rfl rfl fun G hG => ?_
    refine W.initA (hw := ?_)
    repeat' (first
      | (refine W.purgeR [(4, [3, 4, 5, 7]), (5, [3, 4, 5, 7, 8, 9]), (6, [3, 4, 5, 7, 8, 9, 10, 11]), (7, [3, 4, 5, 7, 8, 9, 10, 11, 12, 13]), (8, [3, 4, 5, 7, 8, 9, 10, 11, 12, 13, 14, 15]), (9, [3, 4, 5, 7, 8, 9, 10, 11, 13, 14, 15, 16, 17]), (11, [3, 4, 5, 7, 8, 14, 16]), (12, [3, 4, 5, 7, 8, 9, 14, 16, 18]), (13, [3, 4, 5, 7, 8, 9, 11, 14, 16, 18, 19]), (14, [3, 4, 5, 7, 8, 9, 11, 13, 14, 16, 18, 19, 20]), (15, [3, 4, 5, 7, 8, 9, 11, 13, 14, 15, 16, 18, 19, 20]), (16, [3, 4, 5, 7, 8, 9, 11, 13, 14, 15, 16, 17, 18, 19, 20]), (18, [3, 4, 5, 7, 8, 14, 16, 18, 20]), (19, [3, 4, 5, 7, 8, 9, 14, 16, 18, 20, 21]), (20, [3, 4, 7, 8, 9, 11, 14, 16, 18, 20, 21]), (21, [3, 4, 7, 8, 9, 11, 13, 14, 16, 18]), (22, [3, 4, 7, 8, 9, 11, 13, 14, 15, 16, 18, 22]), (23, [3, 4, 7, 8, 9, 11, 13, 14, 15, 16, 17, 18, 22, 23]), (25, [3, 4, 7, 8, 14, 16, 18]), (26, [3, 4, 7, 9, 14, 16, 18]), (27, [3, 4, 7, 9, 14, 16, 24]), (28, [3, 7, 9, 14, 16, 24, 25])] rfl (by repeat (first | exact PN.nil | apply PN.po rfl | (apply PN.pa; exact rfl; (repeat (first | (apply NR.cons; exact rfl) | exact NR.nil rfl))) | apply PN.a rfl | apply PN.s rfl | apply PN.u rfl | apply PN.m rfl | apply PN.k rfl | apply PN.i rfl | apply PN.skip)) (by repeat (first | exact PB.nil | (apply PB.one; exact rfl; (focus (first | (dsimp only; done) | (dsimp only; exact rfl) | exact rfl)); (focus (first | (dsimp only; done) | (dsimp only; exact rfl) | exact rfl)); exact rfl; (repeat (first | (apply NR.cons; exact rfl) | exact NR.nil rfl)))  | apply PB.cons rfl)) ?_)
      | ((first | apply U_ | (apply Ug_; exact rfl; exact rfl) | (apply Ugq_; exact rfl; exact rfl)); (first
    | exact QX.Move TYok
    | exact QX.Asg TYok
    | exact QX.Fld TYok
    | exact QX.Ld TYok
    | exact QX.Bin TYok
    | exact QX.Pick TYok
    | exact QX.Un TYok
    | exact QX.Ext TYok
    | (apply Q_callGd hG (h0); exact EvD.auto)
    | (apply Q_callG hG (h0); exact EvL.auto; exact rfl)
    | (apply Q_calld (f1); exact EvD.auto)
    | (apply Q_calld (f2); exact EvD.auto)
    | (apply Q_calld (f3); exact EvD.auto)
    | (apply Q_calld (r1); exact EvD.auto)
    | (apply Q_calld (r2); exact EvD.auto)
    | (apply Q_calld (r3); exact EvD.auto)
    | (apply Q_calld (p1); exact EvD.auto)
    | (apply Q_calld (p2); exact EvD.auto)
    | (apply Q_calld (p3); exact EvD.auto)
    | (apply Q_calld (p4); exact EvD.auto)
    | (apply Q_calld (p5); exact EvD.auto)
    | (apply Q_calld (p6); exact EvD.auto)
    | (apply Q_calld (p7); exact EvD.auto)
    | (apply Q_calld (p8); exact EvD.auto)
    | (apply Q_calld (n1); exact EvD.auto)
    | (apply Q_calld (n2); exact EvD.auto)
    | (apply Q_calld (n3); exact EvD.auto)
    | (apply Q_calld (n4); exact EvD.auto)
    | (apply Q_calld (n5); exact EvD.auto)
    | (apply Q_calld (n6); exact EvD.auto)
    | (apply Q_calld (n7); exact EvD.auto)
    | (apply Q_calld (n8); exact EvD.auto)
    | (apply Q_calld (n9); exact EvD.auto)
    | (apply Q_calld (z0); exact EvD.auto)
    | (apply Q_calld (z1); exact EvD.auto)
    | (apply Q_calld (t1); exact EvD.auto)
    | (apply Q_calld (t2); exact EvD.auto)
    | (apply Q_calld (t3); exact EvD.auto)
    | (apply Q_calld (t4); exact EvD.auto)
    | (apply Q_calld (t5); exact EvD.auto)
    | (apply Q_calld (t6); exact EvD.auto)
    | (apply Q_calld (t7); exact EvD.auto)
    | (apply Q_calld (t8); exact EvD.auto)
    | (apply Q_calld (t9); exact EvD.auto)
    | (apply Q_calld (u1); exact EvD.auto)
    | (apply Q_calld (u2); exact EvD.auto)
    | (apply Q_calld (u3); exact EvD.auto)
    | (apply Q_calld (u4); exact EvD.auto)
    | (apply Q_calld (u5); exact EvD.auto)
    | (apply Q_calld (u6); exact EvD.auto)); exact rfl)
      | refine SX.Alloc TYok (h := ?_)
      | refine SX.Store TYok (h := ?_)
      | refine SX.Box TYok (h := ?_)
      | apply RG.nil
      | apply Lex.nil
      | apply Then.n
      | apply Then.r
      | apply Then.x
      | apply InBlock.n
      | apply InBlock.r
      | apply InBlock.hit
      | (apply InBlock.miss; exact rfl)
      | apply W.seq
      | apply W.region
      | apply W.block
      | apply W.skip
      | apply W.ret
      | apply W.exit
      | (apply S_isnil TYok; exact rfl; exact rfl; exact rfl; exact Ev.auto; intro bn hnil)
      | (apply RG.gT; exact rfl; exact rfl; (first | assumption | decide))
      | (apply RG.gF; exact rfl; exact rfl; (first | assumption | decide | (rw [ne_eq, Bool.not_eq_true]; assumption) | (rw [ne_eq, Bool.not_eq_false]; assumption)); exact rfl)
      | apply LexS.nil
      | (apply LexS.f; exact rfl; (first | (apply FreshV.alloc TYok; exact rfl; exact rfl; exact rfl; exact rfl) | (apply FreshV.lit TYok; (repeat (first | exact EvR.nil | apply EvR.cons Ev.auto)); exact rfl; exact rfl; exact rfl; exact rfl; exact rfl; exact rfl; exact rfl; exact rfl; exact rfl) | (apply FreshV.box; exact Ev.auto; exact rfl; exact rfl; exact rfl)); exact rfl; exact rfl; exact rfl)
      | (apply LexS.s; exact rfl; exact rfl; (apply StoreV.mk TYok; exact Ev.auto; exact Ev.auto; exact rfl; exact rfl; exact rfl; exact rfl; exact rfl))
      | ((first | apply LexS.u | (apply LexS.g; exact rfl; exact rfl) | (apply LexS.gq; exact rfl; exact rfl)); (repeat (first | (apply NB.cons; exact rfl) | exact NB.nil rfl)); (first | exact QX.Move TYok | exact QX.Asg TYok | exact QX.Fld TYok | exact QX.Ld TYok | exact QX.Bin TYok | exact QX.Pick TYok | exact QX.Un TYok | exact QX.Ext TYok | (apply Q_callGd hG (h0); exact EvD.auto) | (apply Q_callG hG (h0); exact EvL.auto; exact rfl) | (apply Q_calld (f1); exact EvD.auto) | (apply Q_calld (f2); exact EvD.auto) | (apply Q_calld (f3); exact EvD.auto) | (apply Q_calld (r1); exact EvD.auto) | (apply Q_calld (r2); exact EvD.auto) | (apply Q_calld (r3); exact EvD.auto) | (apply Q_calld (p1); exact EvD.auto) | (apply Q_calld (p2); exact EvD.auto) | (apply Q_calld (p3); exact EvD.auto) | (apply Q_calld (p4); exact EvD.auto) | (apply Q_calld (p5); exact EvD.auto) | (apply Q_calld (p6); exact EvD.auto) | (apply Q_calld (p7); exact EvD.auto) | (apply Q_calld (p8); exact EvD.auto) | (apply Q_calld (n1); exact EvD.auto) | (apply Q_calld (n2); exact EvD.auto) | (apply Q_calld (n3); exact EvD.auto) | (apply Q_calld (n4); exact EvD.auto) | (apply Q_calld (n5); exact EvD.auto) | (apply Q_calld (n6); exact EvD.auto) | (apply Q_calld (n7); exact EvD.auto) | (apply Q_calld (n8); exact EvD.auto) | (apply Q_calld (n9); exact EvD.auto) | (apply Q_calld (z0); exact EvD.auto) | (apply Q_calld (z1); exact EvD.auto) | (apply Q_calld (t1); exact EvD.auto) | (apply Q_calld (t2); exact EvD.auto) | (apply Q_calld (t3); exact EvD.auto) | (apply Q_calld (t4); exact EvD.auto) | (apply Q_calld (t5); exact EvD.auto) | (apply Q_calld (t6); exact EvD.auto) | (apply Q_calld (t7); exact EvD.auto) | (apply Q_calld (t8); exact EvD.auto) | (apply Q_calld (t9); exact EvD.auto) | (apply Q_calld (u1); exact EvD.auto) | (apply Q_calld (u2); exact EvD.auto) | (apply Q_calld (u3); exact EvD.auto) | (apply Q_calld (u4); exact EvD.auto) | (apply Q_calld (u5); exact EvD.auto) | (apply Q_calld (u6); exact EvD.auto)); exact rfl; exact rfl; exact rfl)
      | (refine W.drawS (id := 21) [0, 0, 3, 7, 7, 31, 63, 127, 127, 0, 767, 2047] [[3], [], [234, 235], [236], [236], [237, 238], [239], [233], [233], [], [22, 240], [241]] [(10, (22, ?_)), (9, (22, ?_))] [(10, 22), (9, 22)] mixed (by kernel_rfl) rfl ?_; rotate_left 2)
      | (refine W.drawS (id := 22) [0, 0, 3, 7, 7, 31, 63, 127, 127, 0, 767, 2047] [[3], [], [243, 244], [245], [245], [246, 247], [248], [242], [242], [], [23, 249], [250]] [(10, (23, ?_)), (9, (23, ?_))] [(10, 23), (9, 23)] mixed (by kernel_rfl) rfl ?_; rotate_left 2)
      | (refine W.condA (ht := fun hb => ?_) (hf := fun hb => ?_) <;> (try simp at hb) <;> (try (exfalso; omega))))
    all_goals first
      | exact FinM.ret ResM.auto
      | exact FinM.ret (ResM.tmp rfl rfl (PSub.of_eq (congrArg (fun b => PV.one (Cell.bool b)) (by rw [decide_eq_false (show ¬ sgn b.num = 0 by omega)]; rfl))) ResM.nil)
      | trace_state
end Go.Proofs.YtipghibmgfhmpaaGreatDoor
