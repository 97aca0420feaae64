/-
  Fractions: the law of the floor.
-/
import Derived.Test.YtipghibmgfhmpaaGreatDoorWalk16
set_option linter.unusedVariables false
set_option linter.unusedSimpArgs false
set_option maxHeartbeats 8000000
namespace Go.Proofs.YtipghibmgfhmpaaGreatDoor
open Lf Go
attribute [local irreducible] PureOp EffOp Ev RG W Then InBlock Lf.Fin nth App InitE Pick SubE SubF SubG EvL EvD EvP EvR ResL Lf.Lex SubR SubBR RA RAll EvC FinO FinM ResM FinB ResD FinS val pw digs trimL

theorem mul_lt {x y : Int} {m n k : Nat} (hk : m + n = k) (hx : -pw m < x ∧ x < pw m) (hy : -pw n < y ∧ y < pw n) : -pw k < x * y ∧ x * y < pw k := by
  subst hk
  have h1 := pw_pos m
  have h2 := pw_pos n
  have h : (x * y).natAbs < (pw (m + n)).natAbs := by
    rw [pw_add, Int.natAbs_mul, Int.natAbs_mul]
    exact Nat.mul_lt_mul'' (by omega) (by omega)
  have := pw_pos (m + n)
  omega
def bd (r : Rat) (n : Nat) : Prop := (-pw n < r.num ∧ r.num < pw n) ∧ (-pw n < (r.den : Int) ∧ (r.den : Int) < pw n)
theorem bd_ok {r : Rat} {n : Nat} (h : bd r n) (hn : n ≤ 60) : okF r := by
  have := pw_mono hn
  obtain ⟨h1, h2⟩ := h
  exact ⟨okZ.of (by omega), okZ.of (by omega)⟩
theorem bd_div {x y : Int} {n : Nat} (h0 : y ≠ 0) (hx : -pw n < x ∧ x < pw n) (hy : -pw n < y ∧ y < pw n) : bd (Rat.divInt x y) n := by
  obtain ⟨h1, h2⟩ := divInt_le (x := x) h0
  have a := sgn_cases x
  have b := sgn_cases y
  have c := sgn_cases (Rat.divInt x y).num
  have d := sgn_cases ((Rat.divInt x y).den : Int)
  exact ⟨by omega, by omega⟩
theorem add_bd {a b : Rat} {m n k : Nat} (hk : m + n = k) (ha : bd a m) (hB : bd b n) (h60 : k + 1 ≤ 60) : bd (a + b) (k + 1) ∧ addOk a b := by
  have h1 := mul_lt hk ha.1 hB.2
  have h2 := mul_lt (m := n) (n := m) (k := k) (by omega) hB.1 ha.2
  have h3 := mul_lt hk ha.2 hB.2
  have e : pw (k + 1) = 1048576 * pw k := by rw [pw_succ]
  have hm := pw_mono h60
  have hp := pw_pos k
  refine ⟨?_, ⟨⟨okZ.of (by omega), okZ.of (by omega), okZ.of (by omega)⟩, okZ.of (by omega)⟩⟩
  rw [rat_add]
  exact bd_div (mul_ne (den_ne a) (den_ne b)) (by omega) (by omega)
theorem mul_bd {a b : Rat} {m n k : Nat} (hk : m + n = k) (ha : bd a m) (hB : bd b n) (h60 : k ≤ 60) : bd (a * b) k ∧ mulOk a b := by
  have h1 := mul_lt hk ha.1 hB.1
  have h3 := mul_lt hk ha.2 hB.2
  have hm := pw_mono h60
  refine ⟨?_, ⟨okZ.of (by omega), okZ.of (by omega)⟩⟩
  rw [rat_mul]
  exact bd_div (mul_ne (den_ne a) (den_ne b)) h1 h3
theorem neg_bd {b : Rat} {n : Nat} (h : bd b n) : bd (-b) n := by
  obtain ⟨h1, h2⟩ := h
  refine ⟨?_, ?_⟩
  · rw [Rat.neg_num]; omega
  · rw [Rat.neg_den]; exact h2
theorem div_ok' {a b : Rat} {m n k : Nat} (hk : m + n = k) (ha : bd a m) (hB : bd b n) (h60 : k ≤ 60) : divOk a b := by
  have h1 := mul_lt hk ha.1 hB.2
  have h3 := mul_lt hk ha.2 hB.1
  have hm := pw_mono h60
  exact ⟨okZ.of (by omega), okZ.of (by omega)⟩
theorem bd_of {r : Rat} {n : Nat} (h1 : (digs (mag r.num)).length ≤ n) (h2 : (digs (mag r.den)).length ≤ n) : bd r n := ⟨lt40 h1, lt40 h2⟩
theorem same_zero (a : Rat) (ha : okF a) : ACalls Tryz.prog 14 [zF0, zF a] (.pv (cB false)) := by
  have l1 := num_len ha.1
  have l2 := num_len ha.2
  have c := sgn_cases (a.den : Int)
  have hp := den_pos a
  have s1 := sameBig_ok 0 (sgn a.num) [] (digs (mag a.num)) (by decide) (by omega)
  have s2 := sameBig_ok 0 (sgn a.den) [] (digs (mag a.den)) (by decide) (by omega)
  rw [decide_eq_false (show ¬ (0 : Int) = sgn a.den by omega), Bool.false_and] at s2
  generalize (decide ((0 : Int) = sgn a.num) && decide (([] : List Int) = digs (mag a.num))) = w at *
  refine ACalls.of_W (qs := [cB false]) [4] 17 Tryz.func14 (by kernel_rfl) rfl rfl rfl fun G => ?_
  refine W.initA (hw := ?_)
  repeat' (first
    | ((first | apply U_ | (apply Ug_; exact rfl; exact rfl) | (apply Ugq_; exact rfl; exact rfl)); (first
    | exact QX.Move TYok
    | exact QX.Asg TYok
    | exact QX.Fld TYok
    | exact QX.Ld TYok
    | exact QX.Pick TYok
    | (apply Q_calld (s1); exact EvD.auto)
    | (apply Q_calld (s2); exact EvD.auto)); exact rfl)
    | refine SX.Box TYok (h := ?_)
    | apply RG.nil
    | apply Lex.nil
    | apply Then.n
    | apply Then.r
    | apply Then.x
    | apply InBlock.n
    | apply InBlock.r
    | apply InBlock.hit
    | (apply InBlock.miss; exact rfl)
    | apply W.seq
    | apply W.region
    | apply W.block
    | apply W.skip
    | apply W.ret
    | apply W.exit
    | (apply RG.gT; exact rfl; exact rfl; (first | assumption | decide))
    | (apply RG.gF; exact rfl; exact rfl; (first | assumption | decide | (rw [ne_eq, Bool.not_eq_true]; assumption) | (rw [ne_eq, Bool.not_eq_false]; assumption)); exact rfl)
    | (refine W.condA (ht := fun hb => ?_) (hf := fun hb => ?_) <;> (try simp at hb) <;> (try (exfalso; omega))))
  all_goals first
    | exact Fin.ret ResL.auto
    | (cases w <;> exact Fin.ret ResL.auto)
theorem rt (r : Rat) (h : okF r) : ACalls Tryz.prog 34 [zF r, cI 0] (.tup [zF r, cB true]) := by
  have := right_ok2 r h 0
  rwa [decide_eq_true rfl] at this
theorem sm (r : Rat) (h : okF r) : ACalls Tryz.prog 14 [zF r, zF r] (.pv (cB true)) := by
  have := same_ok r r h h
  rwa [decide_eq_true rfl] at this
theorem divInt01 : Rat.divInt 0 1 = 0 ∧ Rat.divInt 1 1 = 1 := by decide +kernel
attribute [local irreducible] sgn mag gcdZ quoZ remZ txtZ readF fullZ fullE Rat.divInt
set_option maxRecDepth 20000 in
theorem divInt_one (n : Int) : (Rat.divInt n 1).num = n ∧ ((Rat.divInt n 1).den : Int) = 1 := by
  refine rat_of (by decide) ?_
  unfold gcdZ
  rw [Int.gcd_one_right]; rfl
theorem cmp_one (n : Int) (r : Rat) : cmpR (Rat.divInt n 1) r = cmpI (n * r.den) r.num := by
  obtain ⟨e1, e2⟩ := divInt_one n
  unfold cmpR
  rw [e1, e2, Int.mul_one]
theorem eq_one (n : Int) (r : Rat) : Rat.divInt n 1 = r ↔ n * r.den = r.num := by
  obtain ⟨e1, e2⟩ := divInt_one n
  constructor
  · intro h
    subst h
    rw [e1, e2, Int.mul_one]
  · intro h
    have c := cmp_cases (n * r.den) r.num
    exact Rat.le_antisymm ((Rat.le_iff _ _).2 (by rw [e1, e2]; omega)) ((Rat.le_iff _ _).2 (by rw [e1, e2]; omega))
theorem floor_facts (r : Rat) : quoZ r.num r.den * r.den ≤ r.num ∧ r.num < (quoZ r.num r.den + 1) * r.den ∧ (quoZ r.num r.den * r.den = r.num → quoZ (-r.num) r.den = -quoZ r.num r.den) ∧ (¬ quoZ r.num r.den * r.den = r.num → quoZ (-r.num) r.den = -(quoZ r.num r.den + 1)) := by
  have hp := den_pos r
  have h1 := quo_rem r.num r.den
  have h2 := (rem_rng (x := r.num) (y := r.den) (by omega)).1 hp
  generalize quoZ r.num r.den = n at *
  generalize remZ r.num r.den = u at *
  generalize (r.den : Int) = d at *
  generalize r.num = x at *
  have e1 : d * n = n * d := Int.mul_comm ..
  have e2 : (n + 1) * d = n * d + d := by grind
  refine ⟨by omega, by omega, fun h => ?_, fun h => ?_⟩
  · exact (quo_uniq (x := -x) (y := d) (q := -n) (r := 0) (by omega) (by rw [Int.mul_neg]; omega) (fun _ => ⟨by omega, hp⟩) (fun q => by omega)).1.symm
  · exact (quo_uniq (x := -x) (y := d) (q := -(n + 1)) (r := d - u) (by omega) (by rw [Int.mul_neg, Int.mul_comm d, e2]; omega) (fun _ => ⟨by omega, by omega⟩) (fun q => by omega)).1.symm
theorem quo_one (m : Int) : quoZ m 1 = m := by
  unfold quoZ
  rw [if_pos (by decide), Int.ediv_one]
set_option maxRecDepth 20000 in
theorem ffloor_ok (s s' : Int) (l l' : List Int) (m : Int) (h1 : l.length ≤ 9223372036854775807 ∧ l'.length ≤ 9223372036854775807) (hm : i64B m) : GCalls Tryz.prog 3 powC 7 [fB s l s' l', cI m] (.pv (cB true)) := by
  have h0 := small_ok
  have f1 := few_ok s l s' l' 30 h1.1 h1.2
  have r1 := fright_ok s l s' l' h1.1 h1.2
  by_cases hw : (decide ((l.length : Int) ≤ 30) && decide ((l'.length : Int) ≤ 30)) = true ∧ rightFB s l s' l' = true
  case neg =>
    generalize (decide ((l.length : Int) ≤ 30) && decide ((l'.length : Int) ≤ 30)) = b1 at *
    generalize rightFB s l s' l' = c1 at *
    refine GCalls.of_M TYok (qs := [cB true]) [.tmp 4] 97 Tryz.func7 (by kernel_rfl) rfl rfl rfl fun G hG => ?_
    refine W.initA (hw := ?_)
    repeat' (first
      | ((first | apply U_ | (apply Ug_; exact rfl; exact rfl) | (apply Ugq_; exact rfl; exact rfl)); (first
    | exact QX.Move TYok
    | exact QX.Asg TYok
    | exact QX.Fld TYok
    | exact QX.Ld TYok
    | exact QX.Bin TYok
    | exact QX.Pick TYok
    | exact QX.Un TYok
    | exact QX.Ext TYok
    | exact QX.Build TYok
    | (apply Q_callGd hG (h0); exact EvD.auto)
    | (apply Q_callG hG (h0); exact EvL.auto; exact rfl)
    | (apply Q_calld (f1); exact EvD.auto)
    | (apply Q_calld (r1); exact EvD.auto)); exact rfl)
      | refine SX.Alloc TYok (h := ?_)
      | refine SX.Store TYok (h := ?_)
      | refine SX.Box TYok (h := ?_)
      | apply RG.nil
      | apply Lex.nil
      | apply Then.n
      | apply Then.r
      | apply Then.x
      | apply InBlock.n
      | apply InBlock.r
      | apply InBlock.hit
      | (apply InBlock.miss; exact rfl)
      | apply W.seq
      | apply W.region
      | apply W.block
      | apply W.skip
      | apply W.ret
      | apply W.exit
      | (apply RG.gT; exact rfl; exact rfl; (first | assumption | decide))
      | (apply RG.gF; exact rfl; exact rfl; (first | assumption | decide | (rw [ne_eq, Bool.not_eq_true]; assumption) | (rw [ne_eq, Bool.not_eq_false]; assumption)); exact rfl)
      | (refine W.drawA (id := 5) (L := [false, false, false, false, false, false, false, false, false]) mixed rfl ?_)
      | exact RAll.nil
      | (refine RAll.cons rfl ?_ ?_)
      | (refine RA.step (L := [false, false, false, false, false, false, false, false, false]) (i := 0) (is := [1, 6]) (by kernel_rfl) ?_)
      | (refine RA.step (L := [false, false, false, false, false, false, true, false, false]) (i := 0) (is := [1]) (by kernel_rfl) ?_)
      | (refine RA.step (L := [false, true, false, false, false, false, true, false, false]) (i := 0) (is := []) (by kernel_rfl) ?_)
      | (refine RA.step (L := [true, true, false, false, false, false, true, false, false]) (i := 2) (is := []) (by kernel_rfl) ?_)
      | (refine RA.step (L := [true, true, true, false, false, false, true, false, false]) (i := 3) (is := []) (by kernel_rfl) ?_)
      | (refine RA.step (L := [true, true, true, true, false, false, true, false, false]) (i := 4) (is := [5]) (by kernel_rfl) ?_)
      | (refine RA.step (L := [true, true, true, true, false, true, true, false, false]) (i := 4) (is := []) (by kernel_rfl) ?_)
      | (refine RA.step (L := [true, true, true, true, true, true, true, false, false]) (i := 7) (is := []) (by kernel_rfl) ?_)
      | (refine RA.step (L := [true, true, true, true, true, true, true, true, false]) (i := 8) (is := []) (by kernel_rfl) ?_)
      | (refine RA.done (L := [true, true, true, true, true, true, true, true, true]) (by kernel_rfl) ?_)
      | (refine RA.step (L := [true, true, true, true, true, false, true, false, false]) (i := 5) (is := [7]) (by kernel_rfl) ?_)
      | (refine RA.step (L := [true, true, true, true, true, false, true, true, false]) (i := 5) (is := []) (by kernel_rfl) ?_)
      | (refine RA.step (L := [true, false, false, false, false, false, true, false, false]) (i := 1) (is := []) (by kernel_rfl) ?_)
      | (refine RA.step (L := [false, true, false, false, false, false, false, false, false]) (i := 0) (is := [6]) (by kernel_rfl) ?_)
      | (refine RA.step (L := [true, true, false, false, false, false, false, false, false]) (i := 2) (is := [6]) (by kernel_rfl) ?_)
      | (refine RA.step (L := [true, true, true, false, false, false, false, false, false]) (i := 3) (is := [6]) (by kernel_rfl) ?_)
      | (refine RA.step (L := [true, true, true, true, false, false, false, false, false]) (i := 4) (is := [5, 6]) (by kernel_rfl) ?_)
      | (refine RA.step (L := [true, true, true, true, false, true, false, false, false]) (i := 4) (is := [6]) (by kernel_rfl) ?_)
      | (refine RA.step (L := [true, true, true, true, true, true, false, false, false]) (i := 6) (is := []) (by kernel_rfl) ?_)
      | (refine RA.step (L := [true, true, true, true, true, false, false, false, false]) (i := 5) (is := [6]) (by kernel_rfl) ?_)
      | (refine RA.step (L := [true, false, false, false, false, false, false, false, false]) (i := 1) (is := [6]) (by kernel_rfl) ?_)
      | (refine W.drawA (id := 6) (L := [false, false, false, false, false, false, false, false, false]) mixed rfl ?_)
      | exact RAll.nil
      | (refine RAll.cons rfl ?_ ?_)
      | (refine RA.step (L := [false, false, false, false, false, false, false, false, false]) (i := 0) (is := [1, 6]) (by kernel_rfl) ?_)
      | (refine RA.step (L := [false, false, false, false, false, false, true, false, false]) (i := 0) (is := [1]) (by kernel_rfl) ?_)
      | (refine RA.step (L := [false, true, false, false, false, false, true, false, false]) (i := 0) (is := []) (by kernel_rfl) ?_)
      | (refine RA.step (L := [true, true, false, false, false, false, true, false, false]) (i := 2) (is := []) (by kernel_rfl) ?_)
      | (refine RA.step (L := [true, true, true, false, false, false, true, false, false]) (i := 3) (is := []) (by kernel_rfl) ?_)
      | (refine RA.step (L := [true, true, true, true, false, false, true, false, false]) (i := 4) (is := [5]) (by kernel_rfl) ?_)
      | (refine RA.step (L := [true, true, true, true, false, true, true, false, false]) (i := 4) (is := []) (by kernel_rfl) ?_)
      | (refine RA.step (L := [true, true, true, true, true, true, true, false, false]) (i := 7) (is := []) (by kernel_rfl) ?_)
      | (refine RA.step (L := [true, true, true, true, true, true, true, true, false]) (i := 8) (is := []) (by kernel_rfl) ?_)
      | (refine RA.done (L := [true, true, true, true, true, true, true, true, true]) (by kernel_rfl) ?_)
      | (refine RA.step (L := [true, true, true, true, true, false, true, false, false]) (i := 5) (is := [7]) (by kernel_rfl) ?_)
      | (refine RA.step (L := [true, true, true, true, true, false, true, true, false]) (i := 5) (is := []) (by kernel_rfl) ?_)
      | (refine RA.step (L := [true, false, false, false, false, false, true, false, false]) (i := 1) (is := []) (by kernel_rfl) ?_)
      | (refine RA.step (L := [false, true, false, false, false, false, false, false, false]) (i := 0) (is := [6]) (by kernel_rfl) ?_)
      | (refine RA.step (L := [true, true, false, false, false, false, false, false, false]) (i := 2) (is := [6]) (by kernel_rfl) ?_)
      | (refine RA.step (L := [true, true, true, false, false, false, false, false, false]) (i := 3) (is := [6]) (by kernel_rfl) ?_)
      | (refine RA.step (L := [true, true, true, true, false, false, false, false, false]) (i := 4) (is := [5, 6]) (by kernel_rfl) ?_)
      | (refine RA.step (L := [true, true, true, true, false, true, false, false, false]) (i := 4) (is := [6]) (by kernel_rfl) ?_)
      | (refine RA.step (L := [true, true, true, true, true, true, false, false, false]) (i := 6) (is := []) (by kernel_rfl) ?_)
      | (refine RA.step (L := [true, true, true, true, true, false, false, false, false]) (i := 5) (is := [6]) (by kernel_rfl) ?_)
      | (refine RA.step (L := [true, false, false, false, false, false, false, false, false]) (i := 1) (is := [6]) (by kernel_rfl) ?_)
      | (refine W.drawA (id := 7) (L := [false, false, false, false, false, false, false, false, false]) mixed rfl ?_)
      | exact RAll.nil
      | (refine RAll.cons rfl ?_ ?_)
      | (refine RA.step (L := [false, false, false, false, false, false, false, false, false]) (i := 0) (is := [1, 6]) (by kernel_rfl) ?_)
      | (refine RA.step (L := [false, false, false, false, false, false, true, false, false]) (i := 0) (is := [1]) (by kernel_rfl) ?_)
      | (refine RA.step (L := [false, true, false, false, false, false, true, false, false]) (i := 0) (is := []) (by kernel_rfl) ?_)
      | (refine RA.step (L := [true, true, false, false, false, false, true, false, false]) (i := 2) (is := []) (by kernel_rfl) ?_)
      | (refine RA.step (L := [true, true, true, false, false, false, true, false, false]) (i := 3) (is := []) (by kernel_rfl) ?_)
      | (refine RA.step (L := [true, true, true, true, false, false, true, false, false]) (i := 4) (is := [5]) (by kernel_rfl) ?_)
      | (refine RA.step (L := [true, true, true, true, false, true, true, false, false]) (i := 4) (is := []) (by kernel_rfl) ?_)
      | (refine RA.step (L := [true, true, true, true, true, true, true, false, false]) (i := 7) (is := []) (by kernel_rfl) ?_)
      | (refine RA.step (L := [true, true, true, true, true, true, true, true, false]) (i := 8) (is := []) (by kernel_rfl) ?_)
      | (refine RA.done (L := [true, true, true, true, true, true, true, true, true]) (by kernel_rfl) ?_)
      | (refine RA.step (L := [true, true, true, true, true, false, true, false, false]) (i := 5) (is := [7]) (by kernel_rfl) ?_)
      | (refine RA.step (L := [true, true, true, true, true, false, true, true, false]) (i := 5) (is := []) (by kernel_rfl) ?_)
      | (refine RA.step (L := [true, false, false, false, false, false, true, false, false]) (i := 1) (is := []) (by kernel_rfl) ?_)
      | (refine RA.step (L := [false, true, false, false, false, false, false, false, false]) (i := 0) (is := [6]) (by kernel_rfl) ?_)
      | (refine RA.step (L := [true, true, false, false, false, false, false, false, false]) (i := 2) (is := [6]) (by kernel_rfl) ?_)
      | (refine RA.step (L := [true, true, true, false, false, false, false, false, false]) (i := 3) (is := [6]) (by kernel_rfl) ?_)
      | (refine RA.step (L := [true, true, true, true, false, false, false, false, false]) (i := 4) (is := [5, 6]) (by kernel_rfl) ?_)
      | (refine RA.step (L := [true, true, true, true, false, true, false, false, false]) (i := 4) (is := [6]) (by kernel_rfl) ?_)
      | (refine RA.step (L := [true, true, true, true, true, true, false, false, false]) (i := 6) (is := []) (by kernel_rfl) ?_)
      | (refine RA.step (L := [true, true, true, true, true, false, false, false, false]) (i := 5) (is := [6]) (by kernel_rfl) ?_)
      | (refine RA.step (L := [true, false, false, false, false, false, false, false, false]) (i := 1) (is := [6]) (by kernel_rfl) ?_)
      | (refine W.drawA (id := 10) (L := [false, false, false, false, false, false, false, false, false]) mixed rfl ?_)
      | exact RAll.nil
      | (refine RAll.cons rfl ?_ ?_)
      | (refine RA.step (L := [false, false, false, false, false, false, false, false, false]) (i := 0) (is := [3, 7]) (by kernel_rfl) ?_)
      | (refine RA.step (L := [false, false, false, false, false, false, false, true, false]) (i := 0) (is := [3]) (by kernel_rfl) ?_)
      | (refine RA.step (L := [false, false, false, true, false, false, false, true, false]) (i := 0) (is := [4]) (by kernel_rfl) ?_)
      | (refine RA.step (L := [false, false, false, true, true, false, false, true, false]) (i := 0) (is := []) (by kernel_rfl) ?_)
      | (refine RA.step (L := [true, false, false, true, true, false, false, true, false]) (i := 1) (is := []) (by kernel_rfl) ?_)
      | (refine RA.step (L := [true, true, false, true, true, false, false, true, false]) (i := 2) (is := []) (by kernel_rfl) ?_)
      | (refine RA.step (L := [true, true, true, true, true, false, false, true, false]) (i := 5) (is := []) (by kernel_rfl) ?_)
      | (refine RA.step (L := [true, true, true, true, true, true, false, true, false]) (i := 6) (is := []) (by kernel_rfl) ?_)
      | (refine RA.step (L := [true, true, true, true, true, true, true, true, false]) (i := 8) (is := []) (by kernel_rfl) ?_)
      | (refine RA.done (L := [true, true, true, true, true, true, true, true, true]) (by kernel_rfl) ?_)
      | (refine RA.step (L := [true, false, false, true, false, false, false, true, false]) (i := 1) (is := [4]) (by kernel_rfl) ?_)
      | (refine RA.step (L := [true, true, false, true, false, false, false, true, false]) (i := 2) (is := [4]) (by kernel_rfl) ?_)
      | (refine RA.step (L := [true, true, true, true, false, false, false, true, false]) (i := 4) (is := []) (by kernel_rfl) ?_)
      | (refine RA.step (L := [true, false, false, false, false, false, false, true, false]) (i := 1) (is := [3]) (by kernel_rfl) ?_)
      | (refine RA.step (L := [true, true, false, false, false, false, false, true, false]) (i := 2) (is := [3]) (by kernel_rfl) ?_)
      | (refine RA.step (L := [true, true, true, false, false, false, false, true, false]) (i := 3) (is := []) (by kernel_rfl) ?_)
      | (refine RA.step (L := [false, false, false, true, false, false, false, false, false]) (i := 0) (is := [4, 7]) (by kernel_rfl) ?_)
      | (refine RA.step (L := [false, false, false, true, true, false, false, false, false]) (i := 0) (is := [7]) (by kernel_rfl) ?_)
      | (refine RA.step (L := [true, false, false, true, true, false, false, false, false]) (i := 1) (is := [7]) (by kernel_rfl) ?_)
      | (refine RA.step (L := [true, true, false, true, true, false, false, false, false]) (i := 2) (is := [7]) (by kernel_rfl) ?_)
      | (refine RA.step (L := [true, true, true, true, true, false, false, false, false]) (i := 5) (is := [7]) (by kernel_rfl) ?_)
      | (refine RA.step (L := [true, true, true, true, true, true, false, false, false]) (i := 6) (is := [7]) (by kernel_rfl) ?_)
      | (refine RA.step (L := [true, true, true, true, true, true, true, false, false]) (i := 7) (is := []) (by kernel_rfl) ?_)
      | (refine RA.step (L := [true, false, false, true, false, false, false, false, false]) (i := 1) (is := [4, 7]) (by kernel_rfl) ?_)
      | (refine RA.step (L := [true, true, false, true, false, false, false, false, false]) (i := 2) (is := [4, 7]) (by kernel_rfl) ?_)
      | (refine RA.step (L := [true, true, true, true, false, false, false, false, false]) (i := 4) (is := [7]) (by kernel_rfl) ?_)
      | (refine RA.step (L := [true, false, false, false, false, false, false, false, false]) (i := 1) (is := [3, 7]) (by kernel_rfl) ?_)
      | (refine RA.step (L := [true, true, false, false, false, false, false, false, false]) (i := 2) (is := [3, 7]) (by kernel_rfl) ?_)
      | (refine RA.step (L := [true, true, true, false, false, false, false, false, false]) (i := 3) (is := [7]) (by kernel_rfl) ?_)
      | (refine W.condA (ht := fun hb => ?_) (hf := fun hb => ?_) <;> (try simp at hb) <;> (try (exfalso; first | exact hw hb | omega))))
    all_goals exact FinM.ret ResM.auto
  obtain ⟨w1, q1⟩ := hw
  rw [w1] at f1
  rw [q1] at r1
  obtain ⟨r, oa, rfl, rfl, rfl, rfl⟩ := frac_of q1
  simp only [Bool.and_eq_true, decide_eq_true_iff] at w1
  have da : bd r 30 := bd_of (by omega) (by omega)
  have hp := den_pos r
  obtain ⟨ff1, ff2, ff3, ff4⟩ := floor_facts r
  have on := okZ_quo oa.1 (den_ne r)
  have hq := quo_pos (x := r.num) (y := r.den) (q := quoZ r.num r.den) (r := remZ r.num r.den) (P := pw 30) (quo_rem _ _) hp ((rem_rng (x := r.num) (y := r.den) (by omega)).1 hp).1 ((rem_rng (x := r.num) (y := r.den) (by omega)).1 hp).2 da.1
  have h60 := pw_lt (show 30 < 31 by omega)
  have h61 := pw_lt (show 31 < 60 by omega)
  have e31 : pw 31 = 1048576 * pw 30 := by rw [pw_succ]
  have p30 := pw_pos 30
  have on1 : okZ (quoZ r.num r.den + 1) := okZ.of (by omega)
  have ok1 : okZ 1 := i64_ok (by unfold i64B; omega)
  have l1 := floor_ok r oa
  have z1 := ofZ_ok 1 (by unfold i64B; omega)
  have a1 := addZ_ok (quoZ r.num r.den) 1 on ok1
  rw [(full_yes on1).1, (full_yes on1).2] at a1
  have n1 := new_ok (quoZ r.num r.den) 1 on ok1 (by decide)
  have n2 := new_ok (quoZ r.num r.den + 1) 1 on1 ok1 (by decide)
  have ox : okF (Rat.divInt (quoZ r.num r.den) 1) := okF_of on ok1 (by decide)
  have oy : okF (Rat.divInt (quoZ r.num r.den + 1) 1) := okF_of on1 ok1 (by decide)
  have k1 := fcmp_ok _ r ox oa
  rw [cmp_one] at k1
  have k2 := fcmp_ok _ r oy oa
  rw [cmp_one] at k2
  have cc1 := cmp_cases (quoZ r.num r.den * r.den) r.num
  have cc2 := cmp_cases ((quoZ r.num r.den + 1) * r.den) r.num
  have g1 := neg_ok r.num oa.1
  have l2 := floor_ok (-r) (neg_okF oa)
  rw [show zF (-r) = zF2 (-r.num) r.den by show zF2 (-r).num ((-r).den : Int) = _; rw [Rat.neg_num, Rat.neg_den], Rat.neg_num, Rat.neg_den] at l2
  have s1 := same_ok _ r ox oa
  rw [show decide (Rat.divInt (quoZ r.num r.den) 1 = r) = decide (quoZ r.num r.den * r.den = r.num) from decide_eq_decide.2 (eq_one (quoZ r.num r.den) r)] at s1
  have g2 := neg_ok _ on1
  have g3 := neg_ok _ on
  have oc : okZ (quoZ (-r.num) r.den) := okZ_quo (okZ_neg oa.1) (den_ne r)
  have s2 := sameBigZ_ok _ (-(quoZ r.num r.den + 1)) oc (okZ_neg on1)
  have s3 := sameBigZ_ok _ (-quoZ r.num r.den) oc (okZ_neg on)
  have y1 := of_ok m 1 hm (by unfold i64B; omega) (by decide)
  have omz := i64_ok hm
  have oz : okF (Rat.divInt m 1) := okF_of omz ok1 (by decide)
  have l3 := floor_ok _ oz
  rw [(divInt_one m).1, (divInt_one m).2, quo_one] at l3
  have z2 := ofZ_ok m hm
  have s4 := sameBigZ_ok m m omz omz
  rw [decide_eq_true rfl] at s4
  generalize cmpI (quoZ r.num r.den * r.den) r.num = c1 at *
  generalize cmpI ((quoZ r.num r.den + 1) * r.den) r.num = c2 at *
  have hc1 : ¬ 0 < c1 := by omega
  have hc2 : ¬ c2 ≤ 0 := by omega
  have hbad : 0 < c1 ∨ c2 ≤ 0 → False := fun h => h.elim hc1 hc2
  by_cases hwh : quoZ r.num r.den * r.den = r.num
  · rw [decide_eq_true (ff3 hwh)] at s3
    rw [decide_eq_true hwh] at s1
    clear ff1 ff2 ff3 ff4 hq cc1 cc2 hwh
    generalize quoZ (-r.num) r.den = nc at *
    generalize quoZ r.num r.den = n at *
    generalize Rat.divInt n 1 = X at *
    generalize Rat.divInt (n + 1) 1 = Y at *
    generalize Rat.divInt m 1 = Z at *
    refine GCalls.of_M TYok (qs := [cB true]) [.tmp 4] 97 Tryz.func7 (by kernel_rfl) rfl rfl rfl fun G hG => ?_
    refine W.initA (hw := ?_)
    repeat' (first
      | (refine W.purgeR [(4, [1, 2, 5]), (5, [1, 2, 5, 6]), (6, [1, 2, 5, 6, 7, 8]), (7, [1, 2, 5, 6, 7, 8, 9, 10]), (8, [1, 2, 5, 6, 7, 8, 9, 10, 11, 12]), (10, [1, 2, 5, 6, 7, 9]), (11, [1, 2, 5, 6, 7, 9, 13]), (12, [1, 5, 6, 7, 13, 14]), (15, [1, 5, 13, 15])] rfl (by repeat (first | exact PN.nil | apply PN.po rfl | (apply PN.pa; exact rfl; (repeat (first | (apply NR.cons; exact rfl) | exact NR.nil rfl))) | apply PN.a rfl | apply PN.s rfl | apply PN.u rfl | apply PN.m rfl | apply PN.k rfl | apply PN.i rfl | apply PN.skip)) (by repeat (first | exact PB.nil | (apply PB.one; exact rfl; (focus (first | (dsimp only; done) | (dsimp only; exact rfl) | exact rfl)); (focus (first | (dsimp only; done) | (dsimp only; exact rfl) | exact rfl)); exact rfl; (repeat (first | (apply NR.cons; exact rfl) | exact NR.nil rfl)))  | apply PB.cons rfl)) ?_)
      | ((first | apply U_ | (apply Ug_; exact rfl; exact rfl) | (apply Ugq_; exact rfl; exact rfl)); (first
    | exact QX.Move TYok
    | exact QX.Asg TYok
    | exact QX.Fld TYok
    | exact QX.Ld TYok
    | exact QX.Bin TYok
    | exact QX.Pick TYok
    | exact QX.Un TYok
    | exact QX.Ext TYok
    | exact QX.Build TYok
    | (apply Q_callGd hG (h0); exact EvD.auto)
    | (apply Q_callG hG (h0); exact EvL.auto; exact rfl)
    | (apply Q_calld (f1); exact EvD.auto)
    | (apply Q_calld (r1); exact EvD.auto)
    | (apply Q_calld (l1); exact EvD.auto)
    | (apply Q_calld (z1); exact EvD.auto)
    | (apply Q_calld (a1); exact EvD.auto)
    | (apply Q_calld (n1); exact EvD.auto)
    | (apply Q_calld (n2); exact EvD.auto)
    | (apply Q_calld (k1); exact EvD.auto)
    | (apply Q_calld (k2); exact EvD.auto)
    | (apply Q_calld (g1); exact EvD.auto)
    | (apply Q_calld (l2); exact EvD.auto)
    | (apply Q_calld (s1); exact EvD.auto)
    | (apply Q_calld (g2); exact EvD.auto)
    | (apply Q_calld (g3); exact EvD.auto)
    | (apply Q_calld (s3); exact EvD.auto)
    | (apply Q_calld (y1); exact EvD.auto)
    | (apply Q_calld (l3); exact EvD.auto)
    | (apply Q_calld (z2); exact EvD.auto)
    | (apply Q_calld (s4); exact EvD.auto)); exact rfl)
      | refine SX.Alloc TYok (h := ?_)
      | refine SX.Store TYok (h := ?_)
      | refine SX.Box TYok (h := ?_)
      | apply RG.nil
      | apply Lex.nil
      | apply Then.n
      | apply Then.r
      | apply Then.x
      | apply InBlock.n
      | apply InBlock.r
      | apply InBlock.hit
      | (apply InBlock.miss; exact rfl)
      | apply W.seq
      | apply W.region
      | apply W.block
      | apply W.skip
      | apply W.ret
      | apply W.exit
      | (apply RG.gT; exact rfl; exact rfl; (first | assumption | decide))
      | (apply RG.gF; exact rfl; exact rfl; (first | assumption | decide | (rw [ne_eq, Bool.not_eq_true]; assumption) | (rw [ne_eq, Bool.not_eq_false]; assumption)); exact rfl)
      | apply LexS.nil
      | (apply LexS.f; exact rfl; (first | (apply FreshV.alloc TYok; exact rfl; exact rfl; exact rfl; exact rfl) | (apply FreshV.lit TYok; (repeat (first | exact EvR.nil | apply EvR.cons Ev.auto)); exact rfl; exact rfl; exact rfl; exact rfl; exact rfl; exact rfl; exact rfl; exact rfl; exact rfl) | (apply FreshV.box; exact Ev.auto; exact rfl; exact rfl; exact rfl)); exact rfl; exact rfl; exact rfl)
      | (apply LexS.s; exact rfl; exact rfl; (apply StoreV.mk TYok; exact Ev.auto; exact Ev.auto; exact rfl; exact rfl; exact rfl; exact rfl; exact rfl))
      | ((first | apply LexS.u | (apply LexS.g; exact rfl; exact rfl) | (apply LexS.gq; exact rfl; exact rfl)); (repeat (first | (apply NB.cons; exact rfl) | exact NB.nil rfl)); (first | exact QX.Move TYok | exact QX.Asg TYok | exact QX.Fld TYok | exact QX.Ld TYok | exact QX.Bin TYok | exact QX.Pick TYok | exact QX.Un TYok | exact QX.Ext TYok | exact QX.Build TYok | (apply Q_callGd hG (h0); exact EvD.auto) | (apply Q_callG hG (h0); exact EvL.auto; exact rfl) | (apply Q_calld (f1); exact EvD.auto) | (apply Q_calld (r1); exact EvD.auto) | (apply Q_calld (l1); exact EvD.auto) | (apply Q_calld (z1); exact EvD.auto) | (apply Q_calld (a1); exact EvD.auto) | (apply Q_calld (n1); exact EvD.auto) | (apply Q_calld (n2); exact EvD.auto) | (apply Q_calld (k1); exact EvD.auto) | (apply Q_calld (k2); exact EvD.auto) | (apply Q_calld (g1); exact EvD.auto) | (apply Q_calld (l2); exact EvD.auto) | (apply Q_calld (s1); exact EvD.auto) | (apply Q_calld (g2); exact EvD.auto) | (apply Q_calld (g3); exact EvD.auto) | (apply Q_calld (s3); exact EvD.auto) | (apply Q_calld (y1); exact EvD.auto) | (apply Q_calld (l3); exact EvD.auto) | (apply Q_calld (z2); exact EvD.auto) | (apply Q_calld (s4); exact EvD.auto)); exact rfl; exact rfl; exact rfl)
      | (refine W.drawS (id := 5) [0, 0, 3, 7, 15, 15, 0, 95, 255] [[6], [], [29, 30], [31], [28], [28], [], [7, 32], [33]] [(7, (7, ?_)), (6, (7, ?_))] [(7, 7), (6, 7)] mixed (by kernel_rfl) rfl ?_; rotate_left 2)
      | (refine W.drawS (id := 6) [0, 0, 3, 7, 15, 15, 0, 95, 255] [[6], [], [35, 36], [37], [34], [34], [], [9, 38], [39]] [(7, (9, ?_)), (6, (9, ?_))] [(7, 9), (6, 9)] mixed (by kernel_rfl) rfl ?_; rotate_left 2)
      | (refine W.drawS (id := 7) [0, 0, 3, 7, 15, 15, 0, 95, 255] [[7], [], [41, 42], [43], [40], [40], [], [11, 44], [45]] [(7, (11, ?_)), (6, (11, ?_))] [(7, 11), (6, 11)] mixed (by kernel_rfl) rfl ?_; rotate_left 2)
      | (refine W.drawS (id := 10) [0, 1, 3, 0, 8, 31, 63, 0, 255] [[2], [68], [69], [2], [71], [70, 72], [73], [], [13, 74]] [(8, (13, ?_)), (7, (13, ?_))] [(8, 13), (7, 13)] mixed (by kernel_rfl) rfl ?_; rotate_left 2)
      | (refine W.condA (ht := fun hb => ?_) (hf := fun hb => ?_) <;> (try simp at hb) <;> (try (exfalso; first | exact hbad hb | omega))))
    all_goals first
      | exact FinM.ret ResM.auto
      | trace_state
  · rw [decide_eq_true (ff4 hwh)] at s2
    rw [decide_eq_false hwh] at s1
    clear ff1 ff2 ff3 ff4 hq cc1 cc2 hwh
    generalize quoZ (-r.num) r.den = nc at *
    generalize quoZ r.num r.den = n at *
    generalize Rat.divInt n 1 = X at *
    generalize Rat.divInt (n + 1) 1 = Y at *
    generalize Rat.divInt m 1 = Z at *
    refine GCalls.of_M TYok (qs := [cB true]) [.tmp 4] 97 Tryz.func7 (by kernel_rfl) rfl rfl rfl fun G hG => ?_
    refine W.initA (hw := ?_)
    repeat' (first
      | (refine W.purgeR [(4, [1, 2, 5]), (5, [1, 2, 5, 6]), (6, [1, 2, 5, 6, 7, 8]), (7, [1, 2, 5, 6, 7, 8, 9, 10]), (8, [1, 2, 5, 6, 7, 8, 9, 10, 11, 12]), (10, [1, 2, 5, 6, 7, 9]), (11, [1, 2, 5, 6, 7, 9, 13]), (12, [1, 5, 6, 7, 13, 14]), (15, [1, 5, 13, 15])] rfl (by repeat (first | exact PN.nil | apply PN.po rfl | (apply PN.pa; exact rfl; (repeat (first | (apply NR.cons; exact rfl) | exact NR.nil rfl))) | apply PN.a rfl | apply PN.s rfl | apply PN.u rfl | apply PN.m rfl | apply PN.k rfl | apply PN.i rfl | apply PN.skip)) (by repeat (first | exact PB.nil | (apply PB.one; exact rfl; (focus (first | (dsimp only; done) | (dsimp only; exact rfl) | exact rfl)); (focus (first | (dsimp only; done) | (dsimp only; exact rfl) | exact rfl)); exact rfl; (repeat (first | (apply NR.cons; exact rfl) | exact NR.nil rfl)))  | apply PB.cons rfl)) ?_)
      | ((first | apply U_ | (apply Ug_; exact rfl; exact rfl) | (apply Ugq_; exact rfl; exact rfl)); (first
    | exact QX.Move TYok
    | exact QX.Asg TYok
    | exact QX.Fld TYok
    | exact QX.Ld TYok
    | exact QX.Bin TYok
    | exact QX.Pick TYok
    | exact QX.Un TYok
    | exact QX.Ext TYok
    | exact QX.Build TYok
    | (apply Q_callGd hG (h0); exact EvD.auto)
    | (apply Q_callG hG (h0); exact EvL.auto; exact rfl)
    | (apply Q_calld (f1); exact EvD.auto)
    | (apply Q_calld (r1); exact EvD.auto)
    | (apply Q_calld (l1); exact EvD.auto)
    | (apply Q_calld (z1); exact EvD.auto)
    | (apply Q_calld (a1); exact EvD.auto)
    | (apply Q_calld (n1); exact EvD.auto)
    | (apply Q_calld (n2); exact EvD.auto)
    | (apply Q_calld (k1); exact EvD.auto)
    | (apply Q_calld (k2); exact EvD.auto)
    | (apply Q_calld (g1); exact EvD.auto)
    | (apply Q_calld (l2); exact EvD.auto)
    | (apply Q_calld (s1); exact EvD.auto)
    | (apply Q_calld (g2); exact EvD.auto)
    | (apply Q_calld (g3); exact EvD.auto)
    | (apply Q_calld (s2); exact EvD.auto)
    | (apply Q_calld (y1); exact EvD.auto)
    | (apply Q_calld (l3); exact EvD.auto)
    | (apply Q_calld (z2); exact EvD.auto)
    | (apply Q_calld (s4); exact EvD.auto)); exact rfl)
      | refine SX.Alloc TYok (h := ?_)
      | refine SX.Store TYok (h := ?_)
      | refine SX.Box TYok (h := ?_)
      | apply RG.nil
      | apply Lex.nil
      | apply Then.n
      | apply Then.r
      | apply Then.x
      | apply InBlock.n
      | apply InBlock.r
      | apply InBlock.hit
      | (apply InBlock.miss; exact rfl)
      | apply W.seq
      | apply W.region
      | apply W.block
      | apply W.skip
      | apply W.ret
      | apply W.exit
      | (apply RG.gT; exact rfl; exact rfl; (first | assumption | decide))
      | (apply RG.gF; exact rfl; exact rfl; (first | assumption | decide | (rw [ne_eq, Bool.not_eq_true]; assumption) | (rw [ne_eq, Bool.not_eq_false]; assumption)); exact rfl)
      | apply LexS.nil
      | (apply LexS.f; exact rfl; (first | (apply FreshV.alloc TYok; exact rfl; exact rfl; exact rfl; exact rfl) | (apply FreshV.lit TYok; (repeat (first | exact EvR.nil | apply EvR.cons Ev.auto)); exact rfl; exact rfl; exact rfl; exact rfl; exact rfl; exact rfl; exact rfl; exact rfl; exact rfl) | (apply FreshV.box; exact Ev.auto; exact rfl; exact rfl; exact rfl)); exact rfl; exact rfl; exact rfl)
      | (apply LexS.s; exact rfl; exact rfl; (apply StoreV.mk TYok; exact Ev.auto; exact Ev.auto; exact rfl; exact rfl; exact rfl; exact rfl; exact rfl))
      | ((first | apply LexS.u | (apply LexS.g; exact rfl; exact rfl) | (apply LexS.gq; exact rfl; exact rfl)); (repeat (first | (apply NB.cons; exact rfl) | exact NB.nil rfl)); (first | exact QX.Move TYok | exact QX.Asg TYok | exact QX.Fld TYok | exact QX.Ld TYok | exact QX.Bin TYok | exact QX.Pick TYok | exact QX.Un TYok | exact QX.Ext TYok | exact QX.Build TYok | (apply Q_callGd hG (h0); exact EvD.auto) | (apply Q_callG hG (h0); exact EvL.auto; exact rfl) | (apply Q_calld (f1); exact EvD.auto) | (apply Q_calld (r1); exact EvD.auto) | (apply Q_calld (l1); exact EvD.auto) | (apply Q_calld (z1); exact EvD.auto) | (apply Q_calld (a1); exact EvD.auto) | (apply Q_calld (n1); exact EvD.auto) | (apply Q_calld (n2); exact EvD.auto) | (apply Q_calld (k1); exact EvD.auto) | (apply Q_calld (k2); exact EvD.auto) | (apply Q_calld (g1); exact EvD.auto) | (apply Q_calld (l2); exact EvD.auto) | (apply Q_calld (s1); exact EvD.auto) | (apply Q_calld (g2); exact EvD.auto) | (apply Q_calld (g3); exact EvD.auto) | (apply Q_calld (s2); exact EvD.auto) | (apply Q_calld (y1); exact EvD.auto) | (apply Q_calld (l3); exact EvD.auto) | (apply Q_calld (z2); exact EvD.auto) | (apply Q_calld (s4); exact EvD.auto)); exact rfl; exact rfl; exact rfl)
      | (refine W.drawS (id := 5) [0, 0, 3, 7, 15, 15, 0, 95, 255] [[6], [], [29, 30], [31], [28], [28], [], [7, 32], [33]] [(7, (7, ?_)), (6, (7, ?_))] [(7, 7), (6, 7)] mixed (by kernel_rfl) rfl ?_; rotate_left 2)
      | (refine W.drawS (id := 6) [0, 0, 3, 7, 15, 15, 0, 95, 255] [[6], [], [35, 36], [37], [34], [34], [], [9, 38], [39]] [(7, (9, ?_)), (6, (9, ?_))] [(7, 9), (6, 9)] mixed (by kernel_rfl) rfl ?_; rotate_left 2)
      | (refine W.drawS (id := 7) [0, 0, 3, 7, 15, 15, 0, 95, 255] [[7], [], [41, 42], [43], [40], [40], [], [11, 44], [45]] [(7, (11, ?_)), (6, (11, ?_))] [(7, 11), (6, 11)] mixed (by kernel_rfl) rfl ?_; rotate_left 2)
      | (refine W.drawS (id := 10) [0, 1, 3, 0, 8, 31, 63, 0, 255] [[2], [68], [69], [2], [71], [70, 72], [73], [], [13, 74]] [(8, (13, ?_)), (7, (13, ?_))] [(8, 13), (7, 13)] mixed (by kernel_rfl) rfl ?_; rotate_left 2)
      | (refine W.condA (ht := fun hb => ?_) (hf := fun hb => ?_) <;> (try simp at hb) <;> (try (exfalso; first | exact hbad hb | omega))))
    all_goals first
      | exact FinM.ret ResM.auto
      | trace_state
end Go.Proofs.YtipghibmgfhmpaaGreatDoor
