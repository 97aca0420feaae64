/-
  Fractions: the law of the texts.
-/
import Derived.Test.YtipghibmgfhmpaaGreatDoorWalk16
set_option linter.unusedVariables false
set_option linter.unusedSimpArgs false
set_option maxHeartbeats 8000000
namespace Go.Proofs.YtipghibmgfhmpaaGreatDoor
open Lf Go
attribute [local irreducible] PureOp EffOp Ev RG W Then InBlock Lf.Fin nth App InitE Pick SubE SubF SubG EvL EvD EvP EvR ResL Lf.Lex SubR SubBR RA RAll EvC FinO FinM ResM FinB ResD FinS val pw digs trimL

theorem mul_lt {x y : Int} {m n k : Nat} (hk : m + n = k) (hx : -pw m < x ∧ x < pw m) (hy : -pw n < y ∧ y < pw n) : -pw k < x * y ∧ x * y < pw k := by
  subst hk
  have h1 := pw_pos m
  have h2 := pw_pos n
  have h : (x * y).natAbs < (pw (m + n)).natAbs := by
    rw [pw_add, Int.natAbs_mul, Int.natAbs_mul]
    exact Nat.mul_lt_mul'' (by omega) (by omega)
  have := pw_pos (m + n)
  omega
def bd (r : Rat) (n : Nat) : Prop := (-pw n < r.num ∧ r.num < pw n) ∧ (-pw n < (r.den : Int) ∧ (r.den : Int) < pw n)
theorem bd_ok {r : Rat} {n : Nat} (h : bd r n) (hn : n ≤ 60) : okF r := by
  have := pw_mono hn
  obtain ⟨h1, h2⟩ := h
  exact ⟨okZ.of (by omega), okZ.of (by omega)⟩
theorem bd_div {x y : Int} {n : Nat} (h0 : y ≠ 0) (hx : -pw n < x ∧ x < pw n) (hy : -pw n < y ∧ y < pw n) : bd (Rat.divInt x y) n := by
  obtain ⟨h1, h2⟩ := divInt_le (x := x) h0
  have a := sgn_cases x
  have b := sgn_cases y
  have c := sgn_cases (Rat.divInt x y).num
  have d := sgn_cases ((Rat.divInt x y).den : Int)
  exact ⟨by omega, by omega⟩
theorem add_bd {a b : Rat} {m n k : Nat} (hk : m + n = k) (ha : bd a m) (hB : bd b n) (h60 : k + 1 ≤ 60) : bd (a + b) (k + 1) ∧ addOk a b := by
  have h1 := mul_lt hk ha.1 hB.2
  have h2 := mul_lt (m := n) (n := m) (k := k) (by omega) hB.1 ha.2
  have h3 := mul_lt hk ha.2 hB.2
  have e : pw (k + 1) = 1048576 * pw k := by rw [pw_succ]
  have hm := pw_mono h60
  have hp := pw_pos k
  refine ⟨?_, ⟨⟨okZ.of (by omega), okZ.of (by omega), okZ.of (by omega)⟩, okZ.of (by omega)⟩⟩
  rw [rat_add]
  exact bd_div (mul_ne (den_ne a) (den_ne b)) (by omega) (by omega)
theorem mul_bd {a b : Rat} {m n k : Nat} (hk : m + n = k) (ha : bd a m) (hB : bd b n) (h60 : k ≤ 60) : bd (a * b) k ∧ mulOk a b := by
  have h1 := mul_lt hk ha.1 hB.1
  have h3 := mul_lt hk ha.2 hB.2
  have hm := pw_mono h60
  refine ⟨?_, ⟨okZ.of (by omega), okZ.of (by omega)⟩⟩
  rw [rat_mul]
  exact bd_div (mul_ne (den_ne a) (den_ne b)) h1 h3
theorem neg_bd {b : Rat} {n : Nat} (h : bd b n) : bd (-b) n := by
  obtain ⟨h1, h2⟩ := h
  refine ⟨?_, ?_⟩
  · rw [Rat.neg_num]; omega
  · rw [Rat.neg_den]; exact h2
theorem div_ok' {a b : Rat} {m n k : Nat} (hk : m + n = k) (ha : bd a m) (hB : bd b n) (h60 : k ≤ 60) : divOk a b := by
  have h1 := mul_lt hk ha.1 hB.2
  have h3 := mul_lt hk ha.2 hB.1
  have hm := pw_mono h60
  exact ⟨okZ.of (by omega), okZ.of (by omega)⟩
theorem bd_of {r : Rat} {n : Nat} (h1 : (digs (mag r.num)).length ≤ n) (h2 : (digs (mag r.den)).length ≤ n) : bd r n := ⟨lt40 h1, lt40 h2⟩
theorem same_zero (a : Rat) (ha : okF a) : ACalls Tryz.prog 14 [zF0, zF a] (.pv (cB false)) := by
  have l1 := num_len ha.1
  have l2 := num_len ha.2
  have c := sgn_cases (a.den : Int)
  have hp := den_pos a
  have s1 := sameBig_ok 0 (sgn a.num) [] (digs (mag a.num)) (by decide) (by omega)
  have s2 := sameBig_ok 0 (sgn a.den) [] (digs (mag a.den)) (by decide) (by omega)
  rw [decide_eq_false (show ¬ (0 : Int) = sgn a.den by omega), Bool.false_and] at s2
  generalize (decide ((0 : Int) = sgn a.num) && decide (([] : List Int) = digs (mag a.num))) = w at *
  refine ACalls.of_W (qs := [cB false]) [4] 17 Tryz.func14 (by kernel_rfl) rfl rfl rfl fun G => ?_
  refine W.initA (hw := ?_)
  repeat' (first
    | ((first | apply U_ | (apply Ug_; exact rfl; exact rfl) | (apply Ugq_; exact rfl; exact rfl)); (first
    | exact QX.Move TYok
    | exact QX.Asg TYok
    | exact QX.Fld TYok
    | exact QX.Ld TYok
    | exact QX.Pick TYok
    | (apply Q_calld (s1); exact EvD.auto)
    | (apply Q_calld (s2); exact EvD.auto)); exact rfl)
    | refine SX.Box TYok (h := ?_)
    | apply RG.nil
    | apply Lex.nil
    | apply Then.n
    | apply Then.r
    | apply Then.x
    | apply InBlock.n
    | apply InBlock.r
    | apply InBlock.hit
    | (apply InBlock.miss; exact rfl)
    | apply W.seq
    | apply W.region
    | apply W.block
    | apply W.skip
    | apply W.ret
    | apply W.exit
    | (apply RG.gT; exact rfl; exact rfl; (first | assumption | decide))
    | (apply RG.gF; exact rfl; exact rfl; (first | assumption | decide | (rw [ne_eq, Bool.not_eq_true]; assumption) | (rw [ne_eq, Bool.not_eq_false]; assumption)); exact rfl)
    | (refine W.condA (ht := fun hb => ?_) (hf := fun hb => ?_) <;> (try simp at hb) <;> (try (exfalso; omega))))
  all_goals first
    | exact Fin.ret ResL.auto
    | (cases w <;> exact Fin.ret ResL.auto)
theorem rt (r : Rat) (h : okF r) : ACalls Tryz.prog 34 [zF r, cI 0] (.tup [zF r, cB true]) := by
  have := right_ok2 r h 0
  rwa [decide_eq_true rfl] at this
theorem sm (r : Rat) (h : okF r) : ACalls Tryz.prog 14 [zF r, zF r] (.pv (cB true)) := by
  have := same_ok r r h h
  rwa [decide_eq_true rfl] at this
theorem divInt01 : Rat.divInt 0 1 = 0 ∧ Rat.divInt 1 1 = 1 := by decide +kernel
attribute [local irreducible] sgn mag gcdZ quoZ remZ txtZ readF fullZ fullE Rat.divInt
set_option maxRecDepth 20000 in
theorem k8' : rightFB 0 [] 0 [] = false := by decide +kernel
theorem same_00 : ACalls Tryz.prog 14 [zF0, zF0] (.pv (cB true)) := by
  have s1 := sameBig_ok 0 0 [] [] (by decide) (by decide)
  rw [decide_eq_true rfl, decide_eq_true rfl, Bool.and_self] at s1
  refine ACalls.of_W (qs := [cB true]) [4] 17 Tryz.func14 (by kernel_rfl) rfl rfl rfl fun G => ?_
  refine W.initA (hw := ?_)
  repeat' (first
    | ((first | apply U_ | (apply Ug_; exact rfl; exact rfl) | (apply Ugq_; exact rfl; exact rfl)); (first
    | exact QX.Move TYok
    | exact QX.Asg TYok
    | exact QX.Fld TYok
    | exact QX.Ld TYok
    | exact QX.Pick TYok
    | (apply Q_calld (s1); exact EvD.auto)); exact rfl)
    | refine SX.Box TYok (h := ?_)
    | apply RG.nil
    | apply Lex.nil
    | apply Then.n
    | apply Then.r
    | apply Then.x
    | apply InBlock.n
    | apply InBlock.r
    | apply InBlock.hit
    | (apply InBlock.miss; exact rfl)
    | apply W.seq
    | apply W.region
    | apply W.block
    | apply W.skip
    | apply W.ret
    | apply W.exit
    | (apply RG.gT; exact rfl; exact rfl; (first | assumption | decide))
    | (apply RG.gF; exact rfl; exact rfl; (first | assumption | decide | (rw [ne_eq, Bool.not_eq_true]; assumption) | (rw [ne_eq, Bool.not_eq_false]; assumption)); exact rfl)
    | (refine W.condA (ht := fun hb => ?_) (hf := fun hb => ?_) <;> (try simp at hb) <;> (try (exfalso; omega))))
  all_goals exact Fin.ret ResL.auto
theorem same_r0 (a : Rat) (ha : okF a) : ACalls Tryz.prog 14 [zF a, zF0] (.pv (cB false)) := by
  have l1 := num_len ha.1
  have l2 := num_len ha.2
  have c := sgn_cases (a.den : Int)
  have hp := den_pos a
  have s1 := sameBig_ok (sgn a.num) 0 (digs (mag a.num)) [] (by omega) (by decide)
  have s2 := sameBig_ok (sgn a.den) 0 (digs (mag a.den)) [] (by omega) (by decide)
  rw [decide_eq_false (show ¬ sgn (a.den : Int) = 0 by omega), Bool.false_and] at s2
  generalize (decide (sgn a.num = 0) && decide (digs (mag a.num) = ([] : List Int))) = w at *
  refine ACalls.of_W (qs := [cB false]) [4] 17 Tryz.func14 (by kernel_rfl) rfl rfl rfl fun G => ?_
  refine W.initA (hw := ?_)
  repeat' (first
    | ((first | apply U_ | (apply Ug_; exact rfl; exact rfl) | (apply Ugq_; exact rfl; exact rfl)); (first
    | exact QX.Move TYok
    | exact QX.Asg TYok
    | exact QX.Fld TYok
    | exact QX.Ld TYok
    | exact QX.Pick TYok
    | (apply Q_calld (s1); exact EvD.auto)
    | (apply Q_calld (s2); exact EvD.auto)); exact rfl)
    | refine SX.Box TYok (h := ?_)
    | apply RG.nil
    | apply Lex.nil
    | apply Then.n
    | apply Then.r
    | apply Then.x
    | apply InBlock.n
    | apply InBlock.r
    | apply InBlock.hit
    | (apply InBlock.miss; exact rfl)
    | apply W.seq
    | apply W.region
    | apply W.block
    | apply W.skip
    | apply W.ret
    | apply W.exit
    | (apply RG.gT; exact rfl; exact rfl; (first | assumption | decide))
    | (apply RG.gF; exact rfl; exact rfl; (first | assumption | decide | (rw [ne_eq, Bool.not_eq_true]; assumption) | (rw [ne_eq, Bool.not_eq_false]; assumption)); exact rfl)
    | (refine W.condA (ht := fun hb => ?_) (hf := fun hb => ?_) <;> (try simp at hb) <;> (try (exfalso; omega))))
  all_goals first
    | exact Fin.ret ResL.auto
    | (cases w <;> exact Fin.ret ResL.auto)
theorem read_pack (t : Str) (ht : t.length ≤ 9223372036854775806) : ∃ s0 l0 s0' l0' e w u z, GCalls Tryz.prog 3 powC 21 [cS t] (.tup [fB s0 l0 s0' l0', cI e]) ∧ ACalls Tryz.prog 25 [fB s0 l0 s0' l0'] (.pv (cB w)) ∧ GCalls Tryz.prog 3 powC 29 [fB s0 l0 s0' l0'] (.pv (cS u)) ∧ ACalls Tryz.prog 14 [fB s0 l0 s0' l0', zF0] (.pv (cB z)) ∧ ((e = 0 ∧ w = true ∧ u = t) ∨ (e = 2 ∧ z = true)) := by
  have d0 := fread_ok t ht
  cases hr : readFr t with
  | none =>
    rw [hr] at d0
    have r1 := fright_ok 0 [] 0 [] (by decide) (by decide)
    rw [k8'] at r1
    exact ⟨0, [], 0, [], 2, false, [], true, d0, r1, GCalls.of_A (ftext_no 0 [] 0 [] (by decide) (by decide) k8'), same_00, .inr ⟨rfl, rfl⟩⟩
  | some r =>
    rw [hr] at d0
    obtain ⟨o, htx, _⟩ := readFr_some hr
    have t1 := ftext_ok r o
    rw [htx] at t1
    exact ⟨_, _, _, _, 0, true, t, false, d0, fright_yes r o, t1, same_r0 r o, .inl ⟨rfl, rfl, rfl⟩⟩
theorem rat_scale (a : Rat) {k : Int} (h : k ≠ 0) : Rat.divInt (a.num * k) (a.den * k) = a := by
  have := Rat.divInt_mul_left (n := a.num) (d := a.den) h
  rw [Int.mul_comm a.num, Int.mul_comm (a.den : Int), this, Rat.num_divInt_den]
theorem fullZ_ok (z : Int) : okZ (fullZ z) := by
  by_cases h : okZ z
  · rw [(full_yes h).1]; exact h
  · rw [(full_no h).1]; exact okZ.zero
theorem new_any (p q : Int) (hp : okZ p) (hq : okZ q) : ∃ V : PV, ∃ e w, ACalls Tryz.prog 23 [zB p, zB q] (.tup [V, cI e]) ∧ (∀ a : Rat, okF a → ∃ w, ACalls Tryz.prog 14 [V, zF a] (.pv (cB w))) ∧ w = 0 ∧ ∃ s l s' l', V = fB s l s' l' := by
  by_cases h : q = 0
  · subst h
    exact ⟨_, _, 0, new_zero p hp, fun a ha => ⟨_, same_zero a ha⟩, rfl, _, _, _, _, rfl⟩
  · exact ⟨_, _, 0, new_ok p q hp hq h, fun a ha => ⟨_, same_ok _ a (okF_of hp hq h) ha⟩, rfl, _, _, _, _, rfl⟩
set_option maxRecDepth 20000 in
theorem fback_ok (s s' : Int) (l l' : List Int) (m : Int) (t : Str) (h1 : l.length ≤ 9223372036854775807 ∧ l'.length ≤ 9223372036854775807) (hm : i64B m) (ht : t.length ≤ 9223372036854775807) : GCalls Tryz.prog 3 powC 6 [fB s l s' l', cI m, cS t] (.pv (cB true)) := by
  have h0 := small_ok
  have f1 := few_ok s l s' l' 40 h1.1 h1.2
  generalize hb1 : (decide ((l.length : Int) ≤ 40) && decide ((l'.length : Int) ≤ 40)) = b1 at *
  by_cases hw : b1 = true ∧ (t.length : Int) ≤ 300
  case neg =>
    have hw2 : (t.length : Int) ≤ 300 ∧ b1 = true → False := fun q => hw ⟨q.2, q.1⟩
    refine GCalls.of_M TYok (qs := [cB true]) [.tmp 6] 148 Tryz.func6 (by kernel_rfl) rfl rfl rfl fun G hG => ?_
    refine W.initA (hw := ?_)
    repeat' (first
      | ((first | apply U_ | (apply Ug_; exact rfl; exact rfl) | (apply Ugq_; exact rfl; exact rfl)); (first
    | exact QX.Move TYok
    | exact QX.Asg TYok
    | exact QX.Fld TYok
    | exact QX.Ld TYok
    | exact QX.Bin TYok
    | exact QX.Pick TYok
    | exact QX.Un TYok
    | exact QX.Len TYok
    | exact QX.Ext TYok
    | exact QX.Build TYok
    | (apply Q_callGd hG (h0); exact EvD.auto)
    | (apply Q_callG hG (h0); exact EvL.auto; exact rfl)
    | (apply Q_calld (f1); exact EvD.auto)); exact rfl)
      | refine SX.Alloc TYok (h := ?_)
      | refine SX.Store TYok (h := ?_)
      | refine SX.Box TYok (h := ?_)
      | apply RG.nil
      | apply Lex.nil
      | apply Then.n
      | apply Then.r
      | apply Then.x
      | apply InBlock.n
      | apply InBlock.r
      | apply InBlock.hit
      | (apply InBlock.miss; exact rfl)
      | apply W.seq
      | apply W.region
      | apply W.block
      | apply W.skip
      | apply W.ret
      | apply W.exit
      | (apply S_isnil TYok; exact rfl; exact rfl; exact rfl; exact Ev.auto; intro bn hnil)
      | (apply RG.gT; exact rfl; exact rfl; (first | assumption | decide))
      | (apply RG.gF; exact rfl; exact rfl; (first | assumption | decide | (rw [ne_eq, Bool.not_eq_true]; assumption) | (rw [ne_eq, Bool.not_eq_false]; assumption)); exact rfl)
      | (refine W.drawA (id := 12) (L := [false, false, false, false, false, false, false, false, false, false, false]) mixed rfl ?_)
      | exact RAll.nil
      | (refine RAll.cons rfl ?_ ?_)
      | (refine RA.step (L := [false, false, false, false, false, false, false, false, false, false, false]) (i := 0) (is := [2, 8]) (by kernel_rfl) ?_)
      | (refine RA.step (L := [false, false, false, false, false, false, false, false, true, false, false]) (i := 0) (is := [2]) (by kernel_rfl) ?_)
      | (refine RA.step (L := [false, false, true, false, false, false, false, false, true, false, false]) (i := 0) (is := [3]) (by kernel_rfl) ?_)
      | (refine RA.step (L := [false, false, true, true, false, false, false, false, true, false, false]) (i := 0) (is := []) (by kernel_rfl) ?_)
      | (refine RA.step (L := [true, false, true, true, false, false, false, false, true, false, false]) (i := 1) (is := []) (by kernel_rfl) ?_)
      | (refine RA.step (L := [true, true, true, true, false, false, false, false, true, false, false]) (i := 4) (is := []) (by kernel_rfl) ?_)
      | (refine RA.step (L := [true, true, true, true, true, false, false, false, true, false, false]) (i := 5) (is := []) (by kernel_rfl) ?_)
      | (refine RA.step (L := [true, true, true, true, true, true, false, false, true, false, false]) (i := 6) (is := [7]) (by kernel_rfl) ?_)
      | (refine RA.step (L := [true, true, true, true, true, true, false, true, true, false, false]) (i := 6) (is := []) (by kernel_rfl) ?_)
      | (refine RA.step (L := [true, true, true, true, true, true, true, true, true, false, false]) (i := 9) (is := []) (by kernel_rfl) ?_)
      | (refine RA.step (L := [true, true, true, true, true, true, true, true, true, true, false]) (i := 10) (is := []) (by kernel_rfl) ?_)
      | (refine RA.done (L := [true, true, true, true, true, true, true, true, true, true, true]) (by kernel_rfl) ?_)
      | (refine RA.step (L := [true, true, true, true, true, true, true, false, true, false, false]) (i := 7) (is := [9]) (by kernel_rfl) ?_)
      | (refine RA.step (L := [true, true, true, true, true, true, true, false, true, true, false]) (i := 7) (is := []) (by kernel_rfl) ?_)
      | (refine RA.step (L := [true, false, true, false, false, false, false, false, true, false, false]) (i := 1) (is := [3]) (by kernel_rfl) ?_)
      | (refine RA.step (L := [true, true, true, false, false, false, false, false, true, false, false]) (i := 3) (is := []) (by kernel_rfl) ?_)
      | (refine RA.step (L := [true, false, false, false, false, false, false, false, true, false, false]) (i := 1) (is := [2]) (by kernel_rfl) ?_)
      | (refine RA.step (L := [true, true, false, false, false, false, false, false, true, false, false]) (i := 2) (is := []) (by kernel_rfl) ?_)
      | (refine RA.step (L := [false, false, true, false, false, false, false, false, false, false, false]) (i := 0) (is := [3, 8]) (by kernel_rfl) ?_)
      | (refine RA.step (L := [false, false, true, true, false, false, false, false, false, false, false]) (i := 0) (is := [8]) (by kernel_rfl) ?_)
      | (refine RA.step (L := [true, false, true, true, false, false, false, false, false, false, false]) (i := 1) (is := [8]) (by kernel_rfl) ?_)
      | (refine RA.step (L := [true, true, true, true, false, false, false, false, false, false, false]) (i := 4) (is := [8]) (by kernel_rfl) ?_)
      | (refine RA.step (L := [true, true, true, true, true, false, false, false, false, false, false]) (i := 5) (is := [8]) (by kernel_rfl) ?_)
      | (refine RA.step (L := [true, true, true, true, true, true, false, false, false, false, false]) (i := 6) (is := [7, 8]) (by kernel_rfl) ?_)
      | (refine RA.step (L := [true, true, true, true, true, true, false, true, false, false, false]) (i := 6) (is := [8]) (by kernel_rfl) ?_)
      | (refine RA.step (L := [true, true, true, true, true, true, true, true, false, false, false]) (i := 8) (is := []) (by kernel_rfl) ?_)
      | (refine RA.step (L := [true, true, true, true, true, true, true, false, false, false, false]) (i := 7) (is := [8]) (by kernel_rfl) ?_)
      | (refine RA.step (L := [true, false, true, false, false, false, false, false, false, false, false]) (i := 1) (is := [3, 8]) (by kernel_rfl) ?_)
      | (refine RA.step (L := [true, true, true, false, false, false, false, false, false, false, false]) (i := 3) (is := [8]) (by kernel_rfl) ?_)
      | (refine RA.step (L := [true, false, false, false, false, false, false, false, false, false, false]) (i := 1) (is := [2, 8]) (by kernel_rfl) ?_)
      | (refine RA.step (L := [true, true, false, false, false, false, false, false, false, false, false]) (i := 2) (is := [8]) (by kernel_rfl) ?_)
      | (refine W.drawA (id := 13) (L := [false, false, false, false, false, false, false, false, false, false, false]) mixed rfl ?_)
      | exact RAll.nil
      | (refine RAll.cons rfl ?_ ?_)
      | (refine RA.step (L := [false, false, false, false, false, false, false, false, false, false, false]) (i := 0) (is := [2, 8]) (by kernel_rfl) ?_)
      | (refine RA.step (L := [false, false, false, false, false, false, false, false, true, false, false]) (i := 0) (is := [2]) (by kernel_rfl) ?_)
      | (refine RA.step (L := [false, false, true, false, false, false, false, false, true, false, false]) (i := 0) (is := [3]) (by kernel_rfl) ?_)
      | (refine RA.step (L := [false, false, true, true, false, false, false, false, true, false, false]) (i := 0) (is := []) (by kernel_rfl) ?_)
      | (refine RA.step (L := [true, false, true, true, false, false, false, false, true, false, false]) (i := 1) (is := []) (by kernel_rfl) ?_)
      | (refine RA.step (L := [true, true, true, true, false, false, false, false, true, false, false]) (i := 4) (is := []) (by kernel_rfl) ?_)
      | (refine RA.step (L := [true, true, true, true, true, false, false, false, true, false, false]) (i := 5) (is := []) (by kernel_rfl) ?_)
      | (refine RA.step (L := [true, true, true, true, true, true, false, false, true, false, false]) (i := 6) (is := [7]) (by kernel_rfl) ?_)
      | (refine RA.step (L := [true, true, true, true, true, true, false, true, true, false, false]) (i := 6) (is := []) (by kernel_rfl) ?_)
      | (refine RA.step (L := [true, true, true, true, true, true, true, true, true, false, false]) (i := 9) (is := []) (by kernel_rfl) ?_)
      | (refine RA.step (L := [true, true, true, true, true, true, true, true, true, true, false]) (i := 10) (is := []) (by kernel_rfl) ?_)
      | (refine RA.done (L := [true, true, true, true, true, true, true, true, true, true, true]) (by kernel_rfl) ?_)
      | (refine RA.step (L := [true, true, true, true, true, true, true, false, true, false, false]) (i := 7) (is := [9]) (by kernel_rfl) ?_)
      | (refine RA.step (L := [true, true, true, true, true, true, true, false, true, true, false]) (i := 7) (is := []) (by kernel_rfl) ?_)
      | (refine RA.step (L := [true, false, true, false, false, false, false, false, true, false, false]) (i := 1) (is := [3]) (by kernel_rfl) ?_)
      | (refine RA.step (L := [true, true, true, false, false, false, false, false, true, false, false]) (i := 3) (is := []) (by kernel_rfl) ?_)
      | (refine RA.step (L := [true, false, false, false, false, false, false, false, true, false, false]) (i := 1) (is := [2]) (by kernel_rfl) ?_)
      | (refine RA.step (L := [true, true, false, false, false, false, false, false, true, false, false]) (i := 2) (is := []) (by kernel_rfl) ?_)
      | (refine RA.step (L := [false, false, true, false, false, false, false, false, false, false, false]) (i := 0) (is := [3, 8]) (by kernel_rfl) ?_)
      | (refine RA.step (L := [false, false, true, true, false, false, false, false, false, false, false]) (i := 0) (is := [8]) (by kernel_rfl) ?_)
      | (refine RA.step (L := [true, false, true, true, false, false, false, false, false, false, false]) (i := 1) (is := [8]) (by kernel_rfl) ?_)
      | (refine RA.step (L := [true, true, true, true, false, false, false, false, false, false, false]) (i := 4) (is := [8]) (by kernel_rfl) ?_)
      | (refine RA.step (L := [true, true, true, true, true, false, false, false, false, false, false]) (i := 5) (is := [8]) (by kernel_rfl) ?_)
      | (refine RA.step (L := [true, true, true, true, true, true, false, false, false, false, false]) (i := 6) (is := [7, 8]) (by kernel_rfl) ?_)
      | (refine RA.step (L := [true, true, true, true, true, true, false, true, false, false, false]) (i := 6) (is := [8]) (by kernel_rfl) ?_)
      | (refine RA.step (L := [true, true, true, true, true, true, true, true, false, false, false]) (i := 8) (is := []) (by kernel_rfl) ?_)
      | (refine RA.step (L := [true, true, true, true, true, true, true, false, false, false, false]) (i := 7) (is := [8]) (by kernel_rfl) ?_)
      | (refine RA.step (L := [true, false, true, false, false, false, false, false, false, false, false]) (i := 1) (is := [3, 8]) (by kernel_rfl) ?_)
      | (refine RA.step (L := [true, true, true, false, false, false, false, false, false, false, false]) (i := 3) (is := [8]) (by kernel_rfl) ?_)
      | (refine RA.step (L := [true, false, false, false, false, false, false, false, false, false, false]) (i := 1) (is := [2, 8]) (by kernel_rfl) ?_)
      | (refine RA.step (L := [true, true, false, false, false, false, false, false, false, false, false]) (i := 2) (is := [8]) (by kernel_rfl) ?_)
      | (refine W.condA (ht := fun hb => ?_) (hf := fun hb => ?_) <;> (try simp at hb) <;> (try (exfalso; first | exact hw hb | omega))))
    all_goals exact FinM.ret ResM.auto
  obtain ⟨w1, ht3⟩ := hw
  rw [w1] at f1
  obtain ⟨s0, l0, s0', l0', e, w, u, z, d0, rv, tv, sv, hcase⟩ := read_pack t (by omega)
  have hbad : (e = 0 ∧ (w = false ∨ ¬ u = t)) ∨ (¬ e = 0 ∧ (¬ e = 2 ∨ z = false)) → False := by
    rcases hcase with ⟨a1, a2, a3⟩ | ⟨a1, a2⟩
    · rintro (⟨_, q | q⟩ | ⟨q, _⟩)
      · rw [a2] at q; cases q
      · exact q a3
      · exact q a1
    · rintro (⟨q, _⟩ | ⟨_, q | q⟩)
      · omega
      · exact q a1
      · rw [a2] at q; cases q
  have r1 := fright_ok s l s' l' h1.1 h1.2
  cases hr : rightFB s l s' l' with
  | false =>
    rw [hr] at r1
    have t1 := ftext_no s l s' l' h1.1 h1.2 hr
    refine GCalls.of_M TYok (qs := [cB true]) [.tmp 6] 148 Tryz.func6 (by kernel_rfl) rfl rfl rfl fun G hG => ?_
    refine W.initA (hw := ?_)
    repeat' (first
      | (refine W.purgeR [(4, [1, 2, 3, 7]), (5, [1, 2, 3, 7, 8, 9]), (7, [1, 3, 7]), (8, [1, 3, 7, 10]), (9, [7, 10])] rfl (by repeat (first | exact PN.nil | apply PN.po rfl | (apply PN.pa; exact rfl; (repeat (first | (apply NR.cons; exact rfl) | exact NR.nil rfl))) | apply PN.a rfl | apply PN.s rfl | apply PN.u rfl | apply PN.m rfl | apply PN.k rfl | apply PN.i rfl | apply PN.skip)) (by repeat (first | exact PB.nil | (apply PB.one; exact rfl; (focus (first | (dsimp only; done) | (dsimp only; exact rfl) | exact rfl)); (focus (first | (dsimp only; done) | (dsimp only; exact rfl) | exact rfl)); exact rfl; (repeat (first | (apply NR.cons; exact rfl) | exact NR.nil rfl)))  | apply PB.cons rfl)) ?_)
      | ((first | apply U_ | (apply Ug_; exact rfl; exact rfl) | (apply Ugq_; exact rfl; exact rfl)); (first
    | exact QX.Move TYok
    | exact QX.Asg TYok
    | exact QX.Fld TYok
    | exact QX.Ld TYok
    | exact QX.Bin TYok
    | exact QX.Pick TYok
    | exact QX.Un TYok
    | exact QX.Len TYok
    | exact QX.Ext TYok
    | exact QX.Build TYok
    | (apply Q_callGd hG (h0); exact EvD.auto)
    | (apply Q_callG hG (h0); exact EvL.auto; exact rfl)
    | (apply Q_calld (f1); exact EvD.auto)
    | (apply Q_callG hG (d0); exact EvL.auto; exact rfl)
    | (apply Q_callGd hG (d0); exact EvD.auto)
    | (apply Q_calld (rv); exact EvD.auto)
    | (apply Q_callG hG (tv); exact EvL.auto; exact rfl)
    | (apply Q_callGd hG (tv); exact EvD.auto)
    | (apply Q_calld (sv); exact EvD.cons Ev.auto PSub.rfl' (EvD.cons Ev.auto zeroSubF EvD.nil))
    | (apply Q_calld (r1); exact EvD.auto)
    | (apply Q_calld (t1); exact EvD.auto)); exact rfl)
      | refine SX.Alloc TYok (h := ?_)
      | refine SX.Store TYok (h := ?_)
      | refine SX.Box TYok (h := ?_)
      | apply RG.nil
      | apply Lex.nil
      | apply Then.n
      | apply Then.r
      | apply Then.x
      | apply InBlock.n
      | apply InBlock.r
      | apply InBlock.hit
      | (apply InBlock.miss; exact rfl)
      | apply W.seq
      | apply W.region
      | apply W.block
      | apply W.skip
      | apply W.ret
      | apply W.exit
      | (apply S_isnil TYok; exact rfl; exact rfl; exact rfl; exact Ev.auto; intro bn hnil)
      | (apply RG.gT; exact rfl; exact rfl; (first | assumption | decide))
      | (apply RG.gF; exact rfl; exact rfl; (first | assumption | decide | (rw [ne_eq, Bool.not_eq_true]; assumption) | (rw [ne_eq, Bool.not_eq_false]; assumption)); exact rfl)
      | (refine W.drawA (id := 12) (L := [false, false, false, false, false, false, false, false, false, false, false]) mixed rfl ?_)
      | exact RAll.nil
      | (refine RAll.cons rfl ?_ ?_)
      | (refine RA.step (L := [false, false, false, false, false, false, false, false, false, false, false]) (i := 0) (is := [2, 8]) (by kernel_rfl) ?_)
      | (refine RA.step (L := [false, false, false, false, false, false, false, false, true, false, false]) (i := 0) (is := [2]) (by kernel_rfl) ?_)
      | (refine RA.step (L := [false, false, true, false, false, false, false, false, true, false, false]) (i := 0) (is := [3]) (by kernel_rfl) ?_)
      | (refine RA.step (L := [false, false, true, true, false, false, false, false, true, false, false]) (i := 0) (is := []) (by kernel_rfl) ?_)
      | (refine RA.step (L := [true, false, true, true, false, false, false, false, true, false, false]) (i := 1) (is := []) (by kernel_rfl) ?_)
      | (refine RA.step (L := [true, true, true, true, false, false, false, false, true, false, false]) (i := 4) (is := []) (by kernel_rfl) ?_)
      | (refine RA.step (L := [true, true, true, true, true, false, false, false, true, false, false]) (i := 5) (is := []) (by kernel_rfl) ?_)
      | (refine RA.step (L := [true, true, true, true, true, true, false, false, true, false, false]) (i := 6) (is := [7]) (by kernel_rfl) ?_)
      | (refine RA.step (L := [true, true, true, true, true, true, false, true, true, false, false]) (i := 6) (is := []) (by kernel_rfl) ?_)
      | (refine RA.step (L := [true, true, true, true, true, true, true, true, true, false, false]) (i := 9) (is := []) (by kernel_rfl) ?_)
      | (refine RA.step (L := [true, true, true, true, true, true, true, true, true, true, false]) (i := 10) (is := []) (by kernel_rfl) ?_)
      | (refine RA.done (L := [true, true, true, true, true, true, true, true, true, true, true]) (by kernel_rfl) ?_)
      | (refine RA.step (L := [true, true, true, true, true, true, true, false, true, false, false]) (i := 7) (is := [9]) (by kernel_rfl) ?_)
      | (refine RA.step (L := [true, true, true, true, true, true, true, false, true, true, false]) (i := 7) (is := []) (by kernel_rfl) ?_)
      | (refine RA.step (L := [true, false, true, false, false, false, false, false, true, false, false]) (i := 1) (is := [3]) (by kernel_rfl) ?_)
      | (refine RA.step (L := [true, true, true, false, false, false, false, false, true, false, false]) (i := 3) (is := []) (by kernel_rfl) ?_)
      | (refine RA.step (L := [true, false, false, false, false, false, false, false, true, false, false]) (i := 1) (is := [2]) (by kernel_rfl) ?_)
      | (refine RA.step (L := [true, true, false, false, false, false, false, false, true, false, false]) (i := 2) (is := []) (by kernel_rfl) ?_)
      | (refine RA.step (L := [false, false, true, false, false, false, false, false, false, false, false]) (i := 0) (is := [3, 8]) (by kernel_rfl) ?_)
      | (refine RA.step (L := [false, false, true, true, false, false, false, false, false, false, false]) (i := 0) (is := [8]) (by kernel_rfl) ?_)
      | (refine RA.step (L := [true, false, true, true, false, false, false, false, false, false, false]) (i := 1) (is := [8]) (by kernel_rfl) ?_)
      | (refine RA.step (L := [true, true, true, true, false, false, false, false, false, false, false]) (i := 4) (is := [8]) (by kernel_rfl) ?_)
      | (refine RA.step (L := [true, true, true, true, true, false, false, false, false, false, false]) (i := 5) (is := [8]) (by kernel_rfl) ?_)
      | (refine RA.step (L := [true, true, true, true, true, true, false, false, false, false, false]) (i := 6) (is := [7, 8]) (by kernel_rfl) ?_)
      | (refine RA.step (L := [true, true, true, true, true, true, false, true, false, false, false]) (i := 6) (is := [8]) (by kernel_rfl) ?_)
      | (refine RA.step (L := [true, true, true, true, true, true, true, true, false, false, false]) (i := 8) (is := []) (by kernel_rfl) ?_)
      | (refine RA.step (L := [true, true, true, true, true, true, true, false, false, false, false]) (i := 7) (is := [8]) (by kernel_rfl) ?_)
      | (refine RA.step (L := [true, false, true, false, false, false, false, false, false, false, false]) (i := 1) (is := [3, 8]) (by kernel_rfl) ?_)
      | (refine RA.step (L := [true, true, true, false, false, false, false, false, false, false, false]) (i := 3) (is := [8]) (by kernel_rfl) ?_)
      | (refine RA.step (L := [true, false, false, false, false, false, false, false, false, false, false]) (i := 1) (is := [2, 8]) (by kernel_rfl) ?_)
      | (refine RA.step (L := [true, true, false, false, false, false, false, false, false, false, false]) (i := 2) (is := [8]) (by kernel_rfl) ?_)
      | (refine W.drawA (id := 13) (L := [false, false, false, false, false, false, false, false, false, false, false]) mixed rfl ?_)
      | exact RAll.nil
      | (refine RAll.cons rfl ?_ ?_)
      | (refine RA.step (L := [false, false, false, false, false, false, false, false, false, false, false]) (i := 0) (is := [2, 8]) (by kernel_rfl) ?_)
      | (refine RA.step (L := [false, false, false, false, false, false, false, false, true, false, false]) (i := 0) (is := [2]) (by kernel_rfl) ?_)
      | (refine RA.step (L := [false, false, true, false, false, false, false, false, true, false, false]) (i := 0) (is := [3]) (by kernel_rfl) ?_)
      | (refine RA.step (L := [false, false, true, true, false, false, false, false, true, false, false]) (i := 0) (is := []) (by kernel_rfl) ?_)
      | (refine RA.step (L := [true, false, true, true, false, false, false, false, true, false, false]) (i := 1) (is := []) (by kernel_rfl) ?_)
      | (refine RA.step (L := [true, true, true, true, false, false, false, false, true, false, false]) (i := 4) (is := []) (by kernel_rfl) ?_)
      | (refine RA.step (L := [true, true, true, true, true, false, false, false, true, false, false]) (i := 5) (is := []) (by kernel_rfl) ?_)
      | (refine RA.step (L := [true, true, true, true, true, true, false, false, true, false, false]) (i := 6) (is := [7]) (by kernel_rfl) ?_)
      | (refine RA.step (L := [true, true, true, true, true, true, false, true, true, false, false]) (i := 6) (is := []) (by kernel_rfl) ?_)
      | (refine RA.step (L := [true, true, true, true, true, true, true, true, true, false, false]) (i := 9) (is := []) (by kernel_rfl) ?_)
      | (refine RA.step (L := [true, true, true, true, true, true, true, true, true, true, false]) (i := 10) (is := []) (by kernel_rfl) ?_)
      | (refine RA.done (L := [true, true, true, true, true, true, true, true, true, true, true]) (by kernel_rfl) ?_)
      | (refine RA.step (L := [true, true, true, true, true, true, true, false, true, false, false]) (i := 7) (is := [9]) (by kernel_rfl) ?_)
      | (refine RA.step (L := [true, true, true, true, true, true, true, false, true, true, false]) (i := 7) (is := []) (by kernel_rfl) ?_)
      | (refine RA.step (L := [true, false, true, false, false, false, false, false, true, false, false]) (i := 1) (is := [3]) (by kernel_rfl) ?_)
      | (refine RA.step (L := [true, true, true, false, false, false, false, false, true, false, false]) (i := 3) (is := []) (by kernel_rfl) ?_)
      | (refine RA.step (L := [true, false, false, false, false, false, false, false, true, false, false]) (i := 1) (is := [2]) (by kernel_rfl) ?_)
      | (refine RA.step (L := [true, true, false, false, false, false, false, false, true, false, false]) (i := 2) (is := []) (by kernel_rfl) ?_)
      | (refine RA.step (L := [false, false, true, false, false, false, false, false, false, false, false]) (i := 0) (is := [3, 8]) (by kernel_rfl) ?_)
      | (refine RA.step (L := [false, false, true, true, false, false, false, false, false, false, false]) (i := 0) (is := [8]) (by kernel_rfl) ?_)
      | (refine RA.step (L := [true, false, true, true, false, false, false, false, false, false, false]) (i := 1) (is := [8]) (by kernel_rfl) ?_)
      | (refine RA.step (L := [true, true, true, true, false, false, false, false, false, false, false]) (i := 4) (is := [8]) (by kernel_rfl) ?_)
      | (refine RA.step (L := [true, true, true, true, true, false, false, false, false, false, false]) (i := 5) (is := [8]) (by kernel_rfl) ?_)
      | (refine RA.step (L := [true, true, true, true, true, true, false, false, false, false, false]) (i := 6) (is := [7, 8]) (by kernel_rfl) ?_)
      | (refine RA.step (L := [true, true, true, true, true, true, false, true, false, false, false]) (i := 6) (is := [8]) (by kernel_rfl) ?_)
      | (refine RA.step (L := [true, true, true, true, true, true, true, true, false, false, false]) (i := 8) (is := []) (by kernel_rfl) ?_)
      | (refine RA.step (L := [true, true, true, true, true, true, true, false, false, false, false]) (i := 7) (is := [8]) (by kernel_rfl) ?_)
      | (refine RA.step (L := [true, false, true, false, false, false, false, false, false, false, false]) (i := 1) (is := [3, 8]) (by kernel_rfl) ?_)
      | (refine RA.step (L := [true, true, true, false, false, false, false, false, false, false, false]) (i := 3) (is := [8]) (by kernel_rfl) ?_)
      | (refine RA.step (L := [true, false, false, false, false, false, false, false, false, false, false]) (i := 1) (is := [2, 8]) (by kernel_rfl) ?_)
      | (refine RA.step (L := [true, true, false, false, false, false, false, false, false, false, false]) (i := 2) (is := [8]) (by kernel_rfl) ?_)
      | (refine W.condA (ht := fun hb => ?_) (hf := fun hb => ?_) <;> (try simp at hb) <;> (try (exfalso; first | exact hbad hb | omega))))
    all_goals first
      | exact FinM.ret ResM.auto
      | trace_state
  | true =>
    rw [hr] at r1
    obtain ⟨a, oa, rfl, rfl, rfl, rfl⟩ := frac_of hr
    have t1 := ftext_ok a oa
    have lt1 := txt_len oa.1
    have lt2 := txt_len oa.2
    have d1 := fread_ok (txtF a) (by unfold txtF; simp only [List.length_append, List.length_cons, List.length_nil]; omega)
    rw [readFr_txt oa] at d1
    replace d1 : GCalls Tryz.prog 3 powC 21 [cS (txtF a)] (.tup [zF a, cI 0]) := d1
    have n1 := new_ok a.num a.den oa.1 oa.2 (den_ne a)
    rw [Rat.num_divInt_den] at n1
    have s1 := sm a oa
    have z1 := ofZ_ok m hm
    have om := i64_ok hm
    have m1 := mulZ_ok a.num m oa.1 om
    have m2 := mulZ_ok a.den m oa.2 om
    generalize txtF a = T at *
    by_cases hgood : (m ≠ 0 ∧ okZ (a.num * m)) ∧ okZ (a.den * m)
    · obtain ⟨⟨h2, h3⟩, h4⟩ := hgood
      rw [(full_yes h3).1, (full_yes h3).2] at m1
      rw [(full_yes h4).1, (full_yes h4).2] at m2
      have n2 := new_ok _ _ h3 h4 (mul_ne (den_ne a) h2)
      rw [rat_scale a h2] at n2
      refine GCalls.of_M TYok (qs := [cB true]) [.tmp 6] 148 Tryz.func6 (by kernel_rfl) rfl rfl rfl fun G hG => ?_
      refine W.initA (hw := ?_)
      repeat' (first
        | (refine W.purgeR [(4, [1, 2, 3, 7]), (5, [1, 2, 3, 7, 8, 9]), (7, [1, 3, 7]), (8, [1, 3, 7, 10]), (10, [1, 3, 7, 10]), (11, [1, 3, 7, 11, 12]), (12, [1, 3, 7, 11, 12, 13, 14]), (13, [1, 3, 7, 11, 12, 13, 14, 15, 16]), (14, [1, 3, 7, 11, 12, 13, 14, 15, 16, 17, 18]), (15, [1, 3, 7, 11, 12, 13, 14, 16, 18, 19, 20]), (17, [1, 3, 7, 16, 18, 19, 20])] rfl (by repeat (first | exact PN.nil | apply PN.po rfl | (apply PN.pa; exact rfl; (repeat (first | (apply NR.cons; exact rfl) | exact NR.nil rfl))) | apply PN.a rfl | apply PN.s rfl | apply PN.u rfl | apply PN.m rfl | apply PN.k rfl | apply PN.i rfl | apply PN.skip)) (by repeat (first | exact PB.nil | (apply PB.one; exact rfl; (focus (first | (dsimp only; done) | (dsimp only; exact rfl) | exact rfl)); (focus (first | (dsimp only; done) | (dsimp only; exact rfl) | exact rfl)); exact rfl; (repeat (first | (apply NR.cons; exact rfl) | exact NR.nil rfl)))  | apply PB.cons rfl)) ?_)
        | ((first | apply U_ | (apply Ug_; exact rfl; exact rfl) | (apply Ugq_; exact rfl; exact rfl)); (first
    | exact QX.Move TYok
    | exact QX.Asg TYok
    | exact QX.Fld TYok
    | exact QX.Ld TYok
    | exact QX.Bin TYok
    | exact QX.Pick TYok
    | exact QX.Un TYok
    | exact QX.Len TYok
    | exact QX.Ext TYok
    | exact QX.Build TYok
    | (apply Q_callGd hG (h0); exact EvD.auto)
    | (apply Q_callG hG (h0); exact EvL.auto; exact rfl)
    | (apply Q_calld (f1); exact EvD.auto)
    | (apply Q_callG hG (d0); exact EvL.auto; exact rfl)
    | (apply Q_callGd hG (d0); exact EvD.auto)
    | (apply Q_calld (rv); exact EvD.auto)
    | (apply Q_callG hG (tv); exact EvL.auto; exact rfl)
    | (apply Q_callGd hG (tv); exact EvD.auto)
    | (apply Q_calld (sv); exact EvD.cons Ev.auto PSub.rfl' (EvD.cons Ev.auto zeroSubF EvD.nil))
    | (apply Q_calld (r1); exact EvD.auto)
    | (apply Q_callG hG (t1); exact EvL.auto; exact rfl)
    | (apply Q_callGd hG (t1); exact EvD.auto)
    | (apply Q_callG hG (d1); exact EvL.auto; exact rfl)
    | (apply Q_callGd hG (d1); exact EvD.auto)
    | (apply Q_calld (n1); exact EvD.auto)
    | (apply Q_calld (z1); exact EvD.auto)
    | (apply Q_calld (m1); exact EvD.auto)
    | (apply Q_calld (m2); exact EvD.auto)
    | (apply Q_calld (n2); exact EvD.auto)
    | (apply Q_calld (s1); exact EvD.auto)); exact rfl)
        | refine SX.Alloc TYok (h := ?_)
        | refine SX.Store TYok (h := ?_)
        | refine SX.Box TYok (h := ?_)
        | apply RG.nil
        | apply Lex.nil
        | apply Then.n
        | apply Then.r
        | apply Then.x
        | apply InBlock.n
        | apply InBlock.r
        | apply InBlock.hit
        | (apply InBlock.miss; exact rfl)
        | apply W.seq
        | apply W.region
        | apply W.block
        | apply W.skip
        | apply W.ret
        | apply W.exit
        | (apply S_isnil TYok; exact rfl; exact rfl; exact rfl; exact Ev.auto; intro bn hnil)
        | (apply RG.gT; exact rfl; exact rfl; (first | assumption | decide))
        | (apply RG.gF; exact rfl; exact rfl; (first | assumption | decide | (rw [ne_eq, Bool.not_eq_true]; assumption) | (rw [ne_eq, Bool.not_eq_false]; assumption)); exact rfl)
        | apply LexS.nil
        | (apply LexS.f; exact rfl; (first | (apply FreshV.alloc TYok; exact rfl; exact rfl; exact rfl; exact rfl) | (apply FreshV.lit TYok; (repeat (first | exact EvR.nil | apply EvR.cons Ev.auto)); exact rfl; exact rfl; exact rfl; exact rfl; exact rfl; exact rfl; exact rfl; exact rfl; exact rfl) | (apply FreshV.box; exact Ev.auto; exact rfl; exact rfl; exact rfl)); exact rfl; exact rfl; exact rfl)
        | (apply LexS.s; exact rfl; exact rfl; (apply StoreV.mk TYok; exact Ev.auto; exact Ev.auto; exact rfl; exact rfl; exact rfl; exact rfl; exact rfl))
        | ((first | apply LexS.u | (apply LexS.g; exact rfl; exact rfl) | (apply LexS.gq; exact rfl; exact rfl)); (repeat (first | (apply NB.cons; exact rfl) | exact NB.nil rfl)); (first | exact QX.Move TYok | exact QX.Asg TYok | exact QX.Fld TYok | exact QX.Ld TYok | exact QX.Bin TYok | exact QX.Pick TYok | exact QX.Un TYok | exact QX.Len TYok | exact QX.Ext TYok | exact QX.Build TYok | (apply Q_callGd hG (h0); exact EvD.auto) | (apply Q_callG hG (h0); exact EvL.auto; exact rfl) | (apply Q_calld (f1); exact EvD.auto) | (apply Q_callG hG (d0); exact EvL.auto; exact rfl) | (apply Q_callGd hG (d0); exact EvD.auto) | (apply Q_calld (rv); exact EvD.auto) | (apply Q_callG hG (tv); exact EvL.auto; exact rfl) | (apply Q_callGd hG (tv); exact EvD.auto) | (apply Q_calld (sv); exact EvD.cons Ev.auto PSub.rfl' (EvD.cons Ev.auto zeroSubF EvD.nil)) | (apply Q_calld (r1); exact EvD.auto) | (apply Q_callG hG (t1); exact EvL.auto; exact rfl) | (apply Q_callGd hG (t1); exact EvD.auto) | (apply Q_callG hG (d1); exact EvL.auto; exact rfl) | (apply Q_callGd hG (d1); exact EvD.auto) | (apply Q_calld (n1); exact EvD.auto) | (apply Q_calld (z1); exact EvD.auto) | (apply Q_calld (m1); exact EvD.auto) | (apply Q_calld (m2); exact EvD.auto) | (apply Q_calld (n2); exact EvD.auto) | (apply Q_calld (s1); exact EvD.auto)); exact rfl; exact rfl; exact rfl)
        | (refine W.drawS (id := 12) [0, 1, 0, 4, 15, 31, 63, 63, 0, 383, 1023] [[3], [87], [1], [89], [88, 90], [91], [86], [86], [], [15, 92], [93]] [(9, (15, ?_)), (8, (15, ?_))] [(9, 15), (8, 15)] mixed (by kernel_rfl) rfl ?_; rotate_left 2)
        | (refine W.drawS (id := 13) [0, 1, 0, 4, 15, 31, 63, 63, 0, 383, 1023] [[3], [95], [1], [97], [96, 98], [99], [94], [94], [], [17, 100], [101]] [(9, (17, ?_)), (8, (17, ?_))] [(9, 17), (8, 17)] mixed (by kernel_rfl) rfl ?_; rotate_left 2)
        | (refine W.condA (ht := fun hb => ?_) (hf := fun hb => ?_) <;> (try simp at hb) <;> (try (exfalso; first | exact hbad hb | omega))))
      all_goals first
        | exact FinM.ret ResM.auto
        | trace_state
    · obtain ⟨V, e2, _, n2, hs2, _, sa, la, sb, lb, rfl⟩ := new_any (fullZ (a.num * m)) (fullZ (a.den * m)) (fullZ_ok _) (fullZ_ok _)
      obtain ⟨w2, s2⟩ := hs2 a oa
      have hfin : m = 0 ∨ fullE (a.num * m) ≠ 0 ∨ fullE (a.den * m) ≠ 0 := by
        by_cases q1 : m = 0
        · exact .inl q1
        · by_cases q2 : okZ (a.num * m)
          · have q3 : ¬ okZ (a.den * m) := fun q => hgood ⟨⟨q1, q2⟩, q⟩
            exact .inr (.inr (by rw [(full_no q3).2]; decide))
          · exact .inr (.inl (by rw [(full_no q2).2]; decide))
      generalize fullZ (a.num * m) = v1 at *
      generalize fullZ (a.den * m) = v2 at *
      generalize fullE (a.num * m) = v3 at *
      generalize fullE (a.den * m) = v4 at *
      refine GCalls.of_M TYok (qs := [cB true]) [.tmp 6] 148 Tryz.func6 (by kernel_rfl) rfl rfl rfl fun G hG => ?_
      refine W.initA (hw := ?_)
      repeat' (first
        | (refine W.purgeR [(4, [1, 2, 3, 7]), (5, [1, 2, 3, 7, 8, 9]), (7, [1, 3, 7]), (8, [1, 3, 7, 10]), (10, [1, 3, 7, 10]), (11, [1, 3, 7, 11, 12]), (12, [1, 3, 7, 11, 12, 13, 14]), (13, [1, 3, 7, 11, 12, 13, 14, 15, 16]), (14, [1, 3, 7, 11, 12, 13, 14, 15, 16, 17, 18]), (15, [1, 3, 7, 11, 12, 13, 14, 16, 18, 19, 20]), (17, [1, 3, 7, 16, 18, 19, 20])] rfl (by repeat (first | exact PN.nil | apply PN.po rfl | (apply PN.pa; exact rfl; (repeat (first | (apply NR.cons; exact rfl) | exact NR.nil rfl))) | apply PN.a rfl | apply PN.s rfl | apply PN.u rfl | apply PN.m rfl | apply PN.k rfl | apply PN.i rfl | apply PN.skip)) (by repeat (first | exact PB.nil | (apply PB.one; exact rfl; (focus (first | (dsimp only; done) | (dsimp only; exact rfl) | exact rfl)); (focus (first | (dsimp only; done) | (dsimp only; exact rfl) | exact rfl)); exact rfl; (repeat (first | (apply NR.cons; exact rfl) | exact NR.nil rfl)))  | apply PB.cons rfl)) ?_)
        | ((first | apply U_ | (apply Ug_; exact rfl; exact rfl) | (apply Ugq_; exact rfl; exact rfl)); (first
    | exact QX.Move TYok
    | exact QX.Asg TYok
    | exact QX.Fld TYok
    | exact QX.Ld TYok
    | exact QX.Bin TYok
    | exact QX.Pick TYok
    | exact QX.Un TYok
    | exact QX.Len TYok
    | exact QX.Ext TYok
    | exact QX.Build TYok
    | (apply Q_callGd hG (h0); exact EvD.auto)
    | (apply Q_callG hG (h0); exact EvL.auto; exact rfl)
    | (apply Q_calld (f1); exact EvD.auto)
    | (apply Q_callG hG (d0); exact EvL.auto; exact rfl)
    | (apply Q_callGd hG (d0); exact EvD.auto)
    | (apply Q_calld (rv); exact EvD.auto)
    | (apply Q_callG hG (tv); exact EvL.auto; exact rfl)
    | (apply Q_callGd hG (tv); exact EvD.auto)
    | (apply Q_calld (sv); exact EvD.cons Ev.auto PSub.rfl' (EvD.cons Ev.auto zeroSubF EvD.nil))
    | (apply Q_calld (r1); exact EvD.auto)
    | (apply Q_callG hG (t1); exact EvL.auto; exact rfl)
    | (apply Q_callGd hG (t1); exact EvD.auto)
    | (apply Q_callG hG (d1); exact EvL.auto; exact rfl)
    | (apply Q_callGd hG (d1); exact EvD.auto)
    | (apply Q_calld (n1); exact EvD.auto)
    | (apply Q_calld (z1); exact EvD.auto)
    | (apply Q_calld (m1); exact EvD.auto)
    | (apply Q_calld (m2); exact EvD.auto)
    | (apply Q_calld (n2); exact EvD.auto)
    | (apply Q_calld (s1); exact EvD.auto)
    | (apply Q_calld (s2); exact EvD.auto)); exact rfl)
        | refine SX.Alloc TYok (h := ?_)
        | refine SX.Store TYok (h := ?_)
        | refine SX.Box TYok (h := ?_)
        | apply RG.nil
        | apply Lex.nil
        | apply Then.n
        | apply Then.r
        | apply Then.x
        | apply InBlock.n
        | apply InBlock.r
        | apply InBlock.hit
        | (apply InBlock.miss; exact rfl)
        | apply W.seq
        | apply W.region
        | apply W.block
        | apply W.skip
        | apply W.ret
        | apply W.exit
        | (apply S_isnil TYok; exact rfl; exact rfl; exact rfl; exact Ev.auto; intro bn hnil)
        | (apply RG.gT; exact rfl; exact rfl; (first | assumption | decide))
        | (apply RG.gF; exact rfl; exact rfl; (first | assumption | decide | (rw [ne_eq, Bool.not_eq_true]; assumption) | (rw [ne_eq, Bool.not_eq_false]; assumption)); exact rfl)
        | apply LexS.nil
        | (apply LexS.f; exact rfl; (first | (apply FreshV.alloc TYok; exact rfl; exact rfl; exact rfl; exact rfl) | (apply FreshV.lit TYok; (repeat (first | exact EvR.nil | apply EvR.cons Ev.auto)); exact rfl; exact rfl; exact rfl; exact rfl; exact rfl; exact rfl; exact rfl; exact rfl; exact rfl) | (apply FreshV.box; exact Ev.auto; exact rfl; exact rfl; exact rfl)); exact rfl; exact rfl; exact rfl)
        | (apply LexS.s; exact rfl; exact rfl; (apply StoreV.mk TYok; exact Ev.auto; exact Ev.auto; exact rfl; exact rfl; exact rfl; exact rfl; exact rfl))
        | ((first | apply LexS.u | (apply LexS.g; exact rfl; exact rfl) | (apply LexS.gq; exact rfl; exact rfl)); (repeat (first | (apply NB.cons; exact rfl) | exact NB.nil rfl)); (first | exact QX.Move TYok | exact QX.Asg TYok | exact QX.Fld TYok | exact QX.Ld TYok | exact QX.Bin TYok | exact QX.Pick TYok | exact QX.Un TYok | exact QX.Len TYok | exact QX.Ext TYok | exact QX.Build TYok | (apply Q_callGd hG (h0); exact EvD.auto) | (apply Q_callG hG (h0); exact EvL.auto; exact rfl) | (apply Q_calld (f1); exact EvD.auto) | (apply Q_callG hG (d0); exact EvL.auto; exact rfl) | (apply Q_callGd hG (d0); exact EvD.auto) | (apply Q_calld (rv); exact EvD.auto) | (apply Q_callG hG (tv); exact EvL.auto; exact rfl) | (apply Q_callGd hG (tv); exact EvD.auto) | (apply Q_calld (sv); exact EvD.cons Ev.auto PSub.rfl' (EvD.cons Ev.auto zeroSubF EvD.nil)) | (apply Q_calld (r1); exact EvD.auto) | (apply Q_callG hG (t1); exact EvL.auto; exact rfl) | (apply Q_callGd hG (t1); exact EvD.auto) | (apply Q_callG hG (d1); exact EvL.auto; exact rfl) | (apply Q_callGd hG (d1); exact EvD.auto) | (apply Q_calld (n1); exact EvD.auto) | (apply Q_calld (z1); exact EvD.auto) | (apply Q_calld (m1); exact EvD.auto) | (apply Q_calld (m2); exact EvD.auto) | (apply Q_calld (n2); exact EvD.auto) | (apply Q_calld (s1); exact EvD.auto) | (apply Q_calld (s2); exact EvD.auto)); exact rfl; exact rfl; exact rfl)
        | (refine W.drawS (id := 12) [0, 1, 0, 4, 15, 31, 63, 63, 0, 383, 1023] [[3], [87], [1], [89], [88, 90], [91], [86], [86], [], [15, 92], [93]] [(9, (15, ?_)), (8, (15, ?_))] [(9, 15), (8, 15)] mixed (by kernel_rfl) rfl ?_; rotate_left 2)
        | (refine W.drawS (id := 13) [0, 1, 0, 4, 15, 31, 63, 63, 0, 383, 1023] [[3], [95], [1], [97], [96, 98], [99], [94], [94], [], [17, 100], [101]] [(9, (17, ?_)), (8, (17, ?_))] [(9, 17), (8, 17)] mixed (by kernel_rfl) rfl ?_; rotate_left 2)
        | (refine W.condA (ht := fun hb => ?_) (hf := fun hb => ?_) <;> (try simp at hb) <;> (try (exfalso; first | exact hbad hb | omega))))
      all_goals first
        | exact FinM.ret (ResM.tmp rfl rfl (PSub.of_eq (congrArg (fun b => PV.one (Cell.bool b)) (by simp only [Bool.and_eq_true, Bool.or_eq_true, decide_eq_true_iff, true_and, Bool.not_eq_true', decide_eq_false_iff_not]; omega))) ResM.nil)
        | exact FinM.ret ResM.auto
        | trace_state
end Go.Proofs.YtipghibmgfhmpaaGreatDoor
