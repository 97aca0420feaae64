/-
  Part 9 of what the proof rests on.
-/
import Derived.Test.YtndfnihglpconaaTS07
import Derived.Test.YtndfnihglpconaaTS08
import Derived.Test.YtndfnihglpconaaTS04
section
set_option linter.unusedVariables false
set_option linter.unusedSimpArgs false
set_option maxHeartbeats 8000000
namespace Go.Proofs.Ytndfnihglpconaa
open Lf Go
attribute [local irreducible] PureOp EffOp Ev RG W Then InBlock Lf.Fin nth App InitE Pick SubE EvL EvD EvP EvR ResL Lf.Lex SubR SubBR FinO FinM ResM ResD FinS val pw digs trimL
section
abbrev fB (s : Int) (l : List Int) (s' : Int) (l' : List Int) : PV := .agg [.int .i64 s, .sl (l.map Lf.encI), .int .i64 s', .sl (l'.map Lf.encI)]
abbrev zF2 (p q : Int) : PV := fB (sgn p) (digs (mag p)) (sgn q) (digs (mag q))
abbrev zF (r : Rat) : PV := zF2 r.num r.den
def okF (r : Rat) : Prop := okZ r.num ∧ okZ r.den
theorem den_pos (r : Rat) : (0 : Int) < r.den := by have := r.den_nz; omega
theorem den_ne (r : Rat) : (r.den : Int) ≠ 0 := by have := r.den_nz; omega
theorem quo_pos' {x g : Int} (h : 0 < g) : quoZ x g = x / g := if_pos h
theorem gcd_pos {x y : Int} (hy : y ≠ 0) : 0 < gcdZ x y := by
  unfold gcdZ
  have : Int.gcd x y ≠ 0 := fun h => hy (Int.gcd_eq_zero_iff.1 h).2
  omega
theorem divInt_pos {x y : Int} (hy : 0 < y) : (Rat.divInt x y).num = quoZ x (gcdZ x y) ∧ ((Rat.divInt x y).den : Int) = quoZ y (gcdZ x y) := by
  have hg := gcd_pos (x := x) (show y ≠ 0 by omega)
  rw [quo_pos' hg, quo_pos' hg, Rat.num_divInt, Rat.den_divInt, if_neg (by omega), Int.sign_eq_one_of_pos hy, Int.one_mul, Int.gcd_comm]
  refine ⟨rfl, ?_⟩
  unfold gcdZ
  rw [Int.natCast_ediv]
  congr 1
  omega
theorem divInt_flip (x y : Int) : Rat.divInt (-x) (-y) = Rat.divInt x y := by
  by_cases hy : y = 0
  · subst hy
    rw [Int.neg_zero, Rat.divInt_zero, Rat.divInt_zero]
  · have := Rat.divInt_mul_left (n := x) (d := y) (a := -1) (by decide)
    rw [← this]
    congr 1 <;> omega
theorem num_den_gcd (r : Rat) : gcdZ r.num r.den = 1 := by
  have := r.reduced
  unfold gcdZ
  exact congrArg (fun n : Nat => (n : Int)) this
theorem rat_of {x y : Int} (hy : 0 < y) (hg : gcdZ x y = 1) : (Rat.divInt x y).num = x ∧ ((Rat.divInt x y).den : Int) = y := by
  obtain ⟨h1, h2⟩ := divInt_pos (x := x) hy
  rw [hg] at h1 h2
  rw [h1, h2, quo_pos' (by decide), quo_pos' (by decide)]
  omega
theorem rat_add (a b : Rat) : a + b = Rat.divInt (a.num * b.den + b.num * a.den) (a.den * b.den) := by
  have := Rat.divInt_add_divInt a.num b.num (d₁ := a.den) (d₂ := b.den) (den_ne a) (den_ne b)
  rwa [Rat.num_divInt_den, Rat.num_divInt_den] at this
theorem rat_mul (a b : Rat) : a * b = Rat.divInt (a.num * b.num) (a.den * b.den) := by
  have := Rat.divInt_mul_divInt a.num b.num (d₁ := a.den) (d₂ := b.den)
  rwa [Rat.num_divInt_den, Rat.num_divInt_den] at this
theorem rat_div (a b : Rat) (h : b.num ≠ 0) : a / b = Rat.divInt (a.num * b.den) (a.den * b.num) := by
  rw [Rat.div_def, Rat.inv_def]
  have := Rat.divInt_mul_divInt a.num b.den (d₁ := a.den) (d₂ := b.num)
  rwa [Rat.num_divInt_den] at this
theorem quo_le {x g : Int} (hg : 0 < g) : mag (quoZ x g) ≤ mag x := by
  rw [quo_pos' hg]
  have h1 := sgn_cases x
  have h2 := sgn_cases (x / g)
  have h3 : x = g * (x / g) + x % g := (Int.mul_ediv_add_emod x g).symm
  have h4 := Int.emod_nonneg x (show g ≠ 0 by omega)
  have h5 := Int.emod_lt_of_pos x hg
  by_cases hx : 0 ≤ x
  · have := Int.ediv_nonneg hx (show 0 ≤ g by omega)
    have := Int.ediv_le_self g hx
    omega
  · have h6 : x / g < 0 := Int.ediv_neg_of_neg_of_pos (by omega) hg
    have h7 : x ≤ x / g := by
      rw [Int.le_ediv_iff_mul_le hg]
      have := Int.mul_le_mul_of_nonneg_left (show 1 ≤ g by omega) (show 0 ≤ -x by omega)
      have e : x * g = -(-x * g) := by grind
      omega
    omega
/-- what a fraction of two numbers is not greater than -/
theorem divInt_le {x y : Int} (hy : y ≠ 0) : mag (Rat.divInt x y).num ≤ mag x ∧ mag (Rat.divInt x y).den ≤ mag y := by
  by_cases h : 0 < y
  · obtain ⟨h1, h2⟩ := divInt_pos (x := x) h
    have hg := gcd_pos (x := x) hy
    rw [h1, h2]
    exact ⟨quo_le hg, quo_le hg⟩
  · obtain ⟨h1, h2⟩ := divInt_pos (x := -x) (y := -y) (by omega)
    rw [divInt_flip] at h1 h2
    have hg := gcd_pos (x := -x) (y := -y) (by omega)
    rw [h1, h2]
    have e1 : mag (-x) = mag x := by have := sgn_cases x; have := sgn_cases (-x); omega
    have e2 : mag (-y) = mag y := by have := sgn_cases y; have := sgn_cases (-y); omega
    have := quo_le (x := -x) hg
    have := quo_le (x := -y) hg
    omega
theorem okF_of {x y : Int} (hx : okZ x) (hy : okZ y) (h0 : y ≠ 0) : okF (Rat.divInt x y) := by
  obtain ⟨h1, h2⟩ := divInt_le (x := x) h0
  unfold okF okZ at *
  omega
attribute [local irreducible] sgn mag gcdZ quoZ remZ fullZ fullE
def rightFB (s : Int) (l : List Int) (s' : Int) (l' : List Int) : Bool := rightB s l && rightB s' l' && decide (s' = 1) && decide (gcdZ (s * val l) (val l') = 1)
theorem one_ok (x : Int) (hx : okZ x) : ACalls Try.prog 47 [zB x] (.pv (cB (decide (x = 1)))) := by
  have h1 := intZ_ok x hx
  by_cases hi : i64B x
  · rw [show intV x = x from if_pos hi, decide_eq_true hi] at h1
    refine ACalls.of_W (qs := [cB (decide (x = 1))]) [2] 15 Try.func47 (by kernel_rfl) rfl rfl rfl fun G => ?_
    refine W.initA (hw := ?_)
    repeat' (first | ((first | apply U_ | (apply Ug_; exact rfl; exact rfl) | (apply Ugq_; exact rfl; exact rfl)); (first | exact QX.B TYok | exact QX.Ext TYok | exact QCd (h1)); exact rfl) | refine SX.Box TYok (h := ?_) | refine SC ?_ | (apply S_isnil TYok; exact rfl; exact rfl; exact rfl; exact Ev.auto; intro bn hnil) | refine SG ?_ | (refine W.condA (ht := fun hb => ?_) (hf := fun hb => ?_) <;> (try simp at hb) <;> (try (exfalso; omega))))
    all_goals exact Fin.ret ResL.auto
  · rw [show intV x = 0 from if_neg hi, decide_eq_false hi] at h1
    have e : ¬ x = 1 := fun h => hi (by unfold i64B; omega)
    rw [decide_eq_false e]
    refine ACalls.of_W (qs := [cB false]) [2] 15 Try.func47 (by kernel_rfl) rfl rfl rfl fun G => ?_
    refine W.initA (hw := ?_)
    repeat' (first | ((first | apply U_ | (apply Ug_; exact rfl; exact rfl) | (apply Ugq_; exact rfl; exact rfl)); (first | exact QX.B TYok | exact QX.Ext TYok | exact QCd (h1)); exact rfl) | refine SX.Box TYok (h := ?_) | refine SC ?_ | (apply S_isnil TYok; exact rfl; exact rfl; exact rfl; exact Ev.auto; intro bn hnil) | refine SG ?_ | (refine W.condA (ht := fun hb => ?_) (hf := fun hb => ?_) <;> (try simp at hb) <;> (try (exfalso; omega))))
    all_goals exact Fin.ret ResL.auto
theorem fright_ok (s : Int) (l : List Int) (s' : Int) (l' : List Int) (hl : l.length ≤ 9223372036854775807) (hl' : l'.length ≤ 9223372036854775807) : ACalls Try.prog 25 [fB s l s' l'] (.pv (cB (rightFB s l s' l'))) := by
  have r1 := rightL_ok s l hl
  have r2 := rightL_ok s' l' hl'
  by_cases hw : (rightB s l = true ∧ rightB s' l' = true) ∧ s' = 1
  case neg =>
    have e : rightFB s l s' l' = false := by
      unfold rightFB
      cases h1 : rightB s l <;> cases h2 : rightB s' l' <;> simp_all
    rw [e]
    generalize rightB s l = b1 at r1 hw
    generalize rightB s' l' = b2 at r2 hw
    refine ACalls.of_W (qs := [cB false]) [2] 35 Try.func25 (by kernel_rfl) rfl rfl rfl fun G => ?_
    refine W.initA (hw := ?_)
    repeat' (first | ((first | apply U_ | (apply Ug_; exact rfl; exact rfl) | (apply Ugq_; exact rfl; exact rfl)); (first | exact QX.B TYok | exact QX.Ext TYok | exact QCd (r1) | exact QCd (r2)); exact rfl) | refine SX.Alloc TYok (h := ?_) | refine SX.Store TYok (h := ?_) | refine SX.Box TYok (h := ?_) | refine SC ?_ | (apply S_isnil TYok; exact rfl; exact rfl; exact rfl; exact Ev.auto; intro bn hnil) | refine SG ?_ | (refine W.condA (ht := fun hb => ?_) (hf := fun hb => ?_) <;> (try simp at hb) <;> (try (exfalso; first | exact hw hb | omega))))
    all_goals exact Fin.ret ResL.auto
  obtain ⟨⟨q1, q2⟩, h1⟩ := hw
  have e : rightFB s l s' l' = decide (gcdZ (s * val l) (val l') = 1) := by unfold rightFB; rw [q1, q2, decide_eq_true h1]; simp
  rw [e]
  rw [q1] at r1
  rw [q2] at r2
  obtain ⟨x, ox, rfl, rfl⟩ := right_num q1
  obtain ⟨y, oy, rfl, rfl⟩ := right_num q2
  have cy := sgn_cases y
  have ey : val (digs (mag y)) = y := by rw [val_mag]; omega
  have ex : sgn x * val (digs (mag x)) = x := by rw [val_mag, sgn_mag]
  rw [ex, ey]
  have g1 := gcdZ_ok x y ox oy
  have o1 := one_ok _ (gcd_lt ox oy)
  generalize gcdZ x y = g at *
  refine ACalls.of_W (qs := [cB (decide (g = 1))]) [2] 35 Try.func25 (by kernel_rfl) rfl rfl rfl fun G => ?_
  refine W.initA (hw := ?_)
  repeat' (first | ((first | apply U_ | (apply Ug_; exact rfl; exact rfl) | (apply Ugq_; exact rfl; exact rfl)); (first | exact QX.B TYok | exact QX.Ext TYok | exact QCd (r1) | exact QCd (r2) | exact QCd (g1) | exact QCd (o1)); exact rfl) | refine SX.Alloc TYok (h := ?_) | refine SX.Store TYok (h := ?_) | refine SX.Box TYok (h := ?_) | refine SC ?_ | (apply S_isnil TYok; exact rfl; exact rfl; exact rfl; exact Ev.auto; intro bn hnil) | refine SG ?_ | (refine W.condA (ht := fun hb => ?_) (hf := fun hb => ?_) <;> (try simp at hb) <;> (try (exfalso; omega))))
  all_goals exact Fin.ret ResL.auto
theorem fright_yes (r : Rat) (h : okF r) : ACalls Try.prog 25 [zF r] (.pv (cB true)) := by
  have hp := den_pos r
  have := fright_ok (sgn r.num) (digs (mag r.num)) (sgn r.den) (digs (mag r.den)) (by have := num_len h.1; omega) (by have := num_len h.2; omega)
  have e : rightFB (sgn r.num) (digs (mag r.num)) (sgn r.den) (digs (mag r.den)) = true := by
    unfold rightFB
    have c := sgn_cases r.den
    rw [num_right h.1, num_right h.2, decide_eq_true (show sgn r.den = 1 by omega), val_mag, val_mag, sgn_mag, show mag r.den = r.den by omega, num_den_gcd]; rfl
  rwa [e] at this
theorem frac_of {s s' : Int} {l l' : List Int} (h : rightFB s l s' l' = true) : ∃ r : Rat, okF r ∧ s = sgn r.num ∧ l = digs (mag r.num) ∧ s' = sgn r.den ∧ l' = digs (mag r.den) := by
  unfold rightFB at h
  simp only [Bool.and_eq_true, decide_eq_true_iff] at h
  obtain ⟨⟨⟨q1, q2⟩, h1⟩, hg⟩ := h
  obtain ⟨x, ox, rfl, rfl⟩ := right_num q1
  obtain ⟨y, oy, rfl, rfl⟩ := right_num q2
  have cy := sgn_cases y
  rw [val_mag, val_mag, sgn_mag, show mag y = y by omega] at hg
  obtain ⟨h3, h4⟩ := rat_of (x := x) (y := y) (by omega) hg
  exact ⟨Rat.divInt x y, ⟨by rw [h3]; exact ox, by rw [h4]; exact oy⟩, by rw [h3], by rw [h3], by rw [h4], by rw [h4]⟩
theorem new_pos (x y : Int) (hx : okZ x) (hy : okZ y) (h0 : 0 < y) : ACalls Try.prog 77 [zB x, zB y] (.tup [zF2 (quoZ x (gcdZ x y)) (quoZ y (gcdZ x y)), cI 0]) := by
  have r1 := right_yes hx
  have r2 := right_yes hy
  have cy := sgn_cases y
  have hg := gcd_pos (x := x) (show y ≠ 0 by omega)
  have og := gcd_lt hx hy
  have g1 := gcdZ_ok x y hx hy
  have d1 := divZ_ok x (gcdZ x y) hx og (by omega)
  have d2 := divZ_ok y (gcdZ x y) hy og (by omega)
  generalize quoZ x (gcdZ x y) = a at *
  generalize quoZ y (gcdZ x y) = b at *
  generalize gcdZ x y = g at *
  refine ACalls.of_M TYok (qs := [zF2 a b, cI 0]) [.cell 4 26, .tmp 5] 60 Try.func77 (by kernel_rfl) rfl rfl rfl fun G => ?_
  refine W.initA (hw := ?_)
  repeat' (first | ((first | apply U_ | (apply Ug_; exact rfl; exact rfl) | (apply Ugq_; exact rfl; exact rfl) | apply Lex.u | (apply Lex.g; exact rfl; exact rfl) | (apply Lex.gq; exact rfl; exact rfl)); (first | exact QX.B TYok | exact QX.Ext TYok | exact QX.Build TYok | exact QCd (r1) | exact QCd (r2) | exact QCd (g1) | exact QCd (d1) | exact QCd (d2)); exact rfl) | refine SX.Alloc TYok (h := ?_) | refine SX.Store TYok (h := ?_) | refine SX.Box TYok (h := ?_) | refine SC ?_ | (apply S_isnil TYok; exact rfl; exact rfl; exact rfl; exact Ev.auto; intro bn hnil) | refine SG ?_ | (apply W.draw2 (id := 6) [0, 1, 0, 7, 15, 31] [[2], [33], [3], [35]] 4 [(33, 4), (34, 8589934592), (35, 8), (36, 34359738368)] mixed (by kernel_rfl) rfl rfl) | (refine W.condA (ht := fun hb => ?_) (hf := fun hb => ?_) <;> (try simp at hb) <;> (try (exfalso; omega))))
  all_goals exact FinM.ret ResM.auto
end
section
attribute [local irreducible] sgn mag gcdZ quoZ remZ fullZ fullE
theorem new_neg (x y : Int) (hx : okZ x) (hy : okZ y) (h0 : y < 0) : ACalls Try.prog 77 [zB x, zB y] (.tup [zF2 (quoZ (-x) (gcdZ (-x) (-y))) (quoZ (-y) (gcdZ (-x) (-y))), cI 0]) := by
  have r1 := right_yes hx
  have r2 := right_yes hy
  have cy := sgn_cases y
  have n1 := neg_ok x hx
  have n2 := neg_ok y hy
  have ox := okZ_neg hx
  have oy := okZ_neg hy
  have hg := gcd_pos (x := -x) (show -y ≠ 0 by omega)
  have og := gcd_lt ox oy
  have g1 := gcdZ_ok (-x) (-y) ox oy
  have d1 := divZ_ok (-x) (gcdZ (-x) (-y)) ox og (by omega)
  have d2 := divZ_ok (-y) (gcdZ (-x) (-y)) oy og (by omega)
  generalize quoZ (-x) (gcdZ (-x) (-y)) = a at *
  generalize quoZ (-y) (gcdZ (-x) (-y)) = b at *
  generalize gcdZ (-x) (-y) = g at *
  refine ACalls.of_M TYok (qs := [zF2 a b, cI 0]) [.cell 4 26, .tmp 5] 60 Try.func77 (by kernel_rfl) rfl rfl rfl fun G => ?_
  refine W.initA (hw := ?_)
  repeat' (first | ((first | apply U_ | (apply Ug_; exact rfl; exact rfl) | (apply Ugq_; exact rfl; exact rfl) | apply Lex.u | (apply Lex.g; exact rfl; exact rfl) | (apply Lex.gq; exact rfl; exact rfl)); (first | exact QX.B TYok | exact QX.Ext TYok | exact QX.Build TYok | exact QCd (r1) | exact QCd (r2) | exact QCd (n1) | exact QCd (n2) | exact QCd (g1) | exact QCd (d1) | exact QCd (d2)); exact rfl) | refine SX.Alloc TYok (h := ?_) | refine SX.Store TYok (h := ?_) | refine SX.Box TYok (h := ?_) | refine SC ?_ | (apply S_isnil TYok; exact rfl; exact rfl; exact rfl; exact Ev.auto; intro bn hnil) | refine SG ?_ | (apply W.draw2 (id := 6) [0, 1, 0, 7, 15, 31] [[2], [33], [3], [35]] 4 [(33, 4), (34, 8589934592), (35, 8), (36, 34359738368)] mixed (by kernel_rfl) rfl rfl) | (refine W.condA (ht := fun hb => ?_) (hf := fun hb => ?_) <;> (try simp at hb) <;> (try (exfalso; omega))))
  all_goals exact FinM.ret ResM.auto
theorem new_ok (x y : Int) (hx : okZ x) (hy : okZ y) (h0 : y ≠ 0) : ACalls Try.prog 77 [zB x, zB y] (.tup [zF (Rat.divInt x y), cI 0]) := by
  by_cases h : 0 < y
  · obtain ⟨e1, e2⟩ := divInt_pos (x := x) h
    have := new_pos x y hx hy h
    rwa [← e1, ← e2] at this
  · obtain ⟨e1, e2⟩ := divInt_pos (x := -x) (y := -y) (by omega)
    have := new_neg x y hx hy (by omega)
    rw [← e1, ← e2, divInt_flip] at this
    exact this
def sumOk (a b c d : Int) : Prop := okZ (a * b) ∧ okZ (c * d) ∧ okZ (a * b + c * d)
theorem sum_yes (a b c d : Int) (ha : okZ a) (hb : okZ b) (hc : okZ c) (hd : okZ d) (h : sumOk a b c d) : ACalls Try.prog 80 [zB a, zB b, zB c, zB d] (.tup [zB (a * b + c * d), cI 0]) := by
  obtain ⟨h1, h2, h3⟩ := h
  have m1 := mulZ_ok a b ha hb
  rw [(full_yes h1).1, (full_yes h1).2] at m1
  have m2 := mulZ_ok c d hc hd
  rw [(full_yes h2).1, (full_yes h2).2] at m2
  have a1 := addZ_ok (a * b) (c * d) h1 h2
  rw [(full_yes h3).1, (full_yes h3).2] at a1
  refine ACalls.of_M TYok (qs := [zB (a * b + c * d), cI 0]) [.cell 8 24, .tmp 9] 38 Try.func80 (by kernel_rfl) rfl rfl rfl fun G => ?_
  refine W.initA (hw := ?_)
  repeat' (first | ((first | apply U_); (first | exact QX.B TYok | exact QX.Ext TYok | exact QX.Build TYok | exact QCd (m1) | exact QCd (m2) | exact QCd (a1)); exact rfl) | refine SX.Alloc TYok (h := ?_) | refine SX.Store TYok (h := ?_) | refine SX.Box TYok (h := ?_) | refine SC ?_ | (refine W.condA (ht := fun hb => ?_) (hf := fun hb => ?_) <;> (try simp at hb) <;> (try (exfalso; omega))))
  all_goals exact FinM.ret ResM.auto
theorem quot_yes (p q : Int) (hp : okZ p) (hq : okZ q) (h0 : q ≠ 0) : ACalls Try.prog 53 [zB p, cI 0, zB q, cI 0] (.tup [zF (Rat.divInt p q), cI 0]) := by
  have n1 := new_ok p q hp hq h0
  generalize Rat.divInt p q = r at *
  refine ACalls.of_M TYok (qs := [zF r, cI 0]) [.cell 8 26, .tmp 9] 22 Try.func53 (by kernel_rfl) rfl rfl rfl fun G => ?_
  refine W.initA (hw := ?_)
  repeat' (first | ((first | apply U_ | (apply Ug_; exact rfl; exact rfl) | (apply Ugq_; exact rfl; exact rfl)); (first | exact QX.B TYok | exact QX.Ext TYok | exact QX.Build TYok | exact QCd (n1)); exact rfl) | refine SX.Alloc TYok (h := ?_) | refine SX.Store TYok (h := ?_) | refine SX.Box TYok (h := ?_) | refine SC ?_ | refine SG ?_ | (refine W.condA (ht := fun hb => ?_) (hf := fun hb => ?_) <;> (try simp at hb) <;> (try (exfalso; omega))))
  all_goals exact FinM.ret ResM.auto
def addOk (a b : Rat) : Prop := sumOk a.num b.den b.num a.den ∧ okZ (a.den * b.den)
theorem mul_ne {x y : Int} (hx : x ≠ 0) (hy : y ≠ 0) : x * y ≠ 0 := fun h => (Int.mul_eq_zero.1 h).elim hx hy
theorem add_yes (a b : Rat) (ha : okF a) (hb : okF b) (h : addOk a b) : ACalls Try.prog 54 [zF a, zF b] (.tup [zF (a + b), cI 0]) := by
  obtain ⟨h1, h2⟩ := h
  have r1 := fright_yes a ha
  have r2 := fright_yes b hb
  have s1 := sum_yes a.num b.den b.num a.den ha.1 hb.2 hb.1 ha.2 h1
  have m1 := mulZ_ok a.den b.den ha.2 hb.2
  rw [(full_yes h2).1, (full_yes h2).2] at m1
  have q1 := quot_yes _ _ h1.2.2 h2 (mul_ne (den_ne a) (den_ne b))
  rw [rat_add]
  generalize Rat.divInt (a.num * b.den + b.num * a.den) (a.den * b.den) = r at *
  refine ACalls.of_M TYok (qs := [zF r, cI 0]) [.cell 4 26, .tmp 5] 46 Try.func54 (by kernel_rfl) rfl rfl rfl fun G => ?_
  refine W.initA (hw := ?_)
  repeat' (first | ((first | apply U_ | (apply Ug_; exact rfl; exact rfl) | (apply Ugq_; exact rfl; exact rfl)); (first | exact QX.B TYok | exact QX.Ext TYok | exact QX.Build TYok | exact QCd (r1) | exact QCd (r2) | exact QCd (s1) | exact QCd (m1) | exact QCd (q1)); exact rfl) | refine SX.Alloc TYok (h := ?_) | refine SX.Store TYok (h := ?_) | refine SX.Box TYok (h := ?_) | refine SC ?_ | refine SG ?_ | (refine W.condA (ht := fun hb => ?_) (hf := fun hb => ?_) <;> (try simp at hb) <;> (try (exfalso; omega))))
  all_goals exact FinM.ret ResM.auto
def mulOk (a b : Rat) : Prop := okZ (a.num * b.num) ∧ okZ (a.den * b.den)
theorem fmul_yes (a b : Rat) (ha : okF a) (hb : okF b) (h : mulOk a b) : ACalls Try.prog 29 [zF a, zF b] (.tup [zF (a * b), cI 0]) := by
  obtain ⟨h1, h2⟩ := h
  have r1 := fright_yes a ha
  have r2 := fright_yes b hb
  have m1 := mulZ_ok a.num b.num ha.1 hb.1
  rw [(full_yes h1).1, (full_yes h1).2] at m1
  have m2 := mulZ_ok a.den b.den ha.2 hb.2
  rw [(full_yes h2).1, (full_yes h2).2] at m2
  have q1 := quot_yes _ _ h1 h2 (mul_ne (den_ne a) (den_ne b))
  rw [rat_mul]
  generalize Rat.divInt (a.num * b.num) (a.den * b.den) = r at *
  refine ACalls.of_M TYok (qs := [zF r, cI 0]) [.cell 4 26, .tmp 5] 42 Try.func29 (by kernel_rfl) rfl rfl rfl fun G => ?_
  refine W.initA (hw := ?_)
  repeat' (first | ((first | apply U_ | (apply Ug_; exact rfl; exact rfl) | (apply Ugq_; exact rfl; exact rfl)); (first | exact QX.B TYok | exact QX.Ext TYok | exact QX.Build TYok | exact QCd (r1) | exact QCd (r2) | exact QCd (m1) | exact QCd (m2) | exact QCd (q1)); exact rfl) | refine SX.Alloc TYok (h := ?_) | refine SX.Store TYok (h := ?_) | refine SX.Box TYok (h := ?_) | refine SC ?_ | refine SG ?_ | (refine W.condA (ht := fun hb => ?_) (hf := fun hb => ?_) <;> (try simp at hb) <;> (try (exfalso; omega))))
  all_goals exact FinM.ret ResM.auto
def divOk (a b : Rat) : Prop := okZ (a.num * b.den) ∧ okZ (a.den * b.num)
theorem fdiv_yes (a b : Rat) (ha : okF a) (hb : okF b) (h0 : b.num ≠ 0) (h : divOk a b) : ACalls Try.prog 30 [zF a, zF b] (.tup [zF (a / b), cI 0]) := by
  obtain ⟨h1, h2⟩ := h
  have r1 := fright_yes a ha
  have r2 := fright_yes b hb
  have cb := sgn_cases b.num
  have m1 := mulZ_ok a.num b.den ha.1 hb.2
  rw [(full_yes h1).1, (full_yes h1).2] at m1
  have m2 := mulZ_ok a.den b.num ha.2 hb.1
  rw [(full_yes h2).1, (full_yes h2).2] at m2
  have q1 := quot_yes _ _ h1 h2 (mul_ne (den_ne a) h0)
  rw [rat_div a b h0]
  generalize Rat.divInt (a.num * b.den) (a.den * b.num) = r at *
  refine ACalls.of_M TYok (qs := [zF r, cI 0]) [.cell 4 26, .tmp 5] 49 Try.func30 (by kernel_rfl) rfl rfl rfl fun G => ?_
  refine W.initA (hw := ?_)
  repeat' (first | ((first | apply U_ | (apply Ug_; exact rfl; exact rfl) | (apply Ugq_; exact rfl; exact rfl)); (first | exact QX.B TYok | exact QX.Ext TYok | exact QX.Build TYok | exact QCd (r1) | exact QCd (r2) | exact QCd (m1) | exact QCd (m2) | exact QCd (q1)); exact rfl) | refine SX.Alloc TYok (h := ?_) | refine SX.Store TYok (h := ?_) | refine SX.Box TYok (h := ?_) | refine SC ?_ | (apply S_isnil TYok; exact rfl; exact rfl; exact rfl; exact Ev.auto; intro bn hnil) | refine SG ?_ | (refine W.condA (ht := fun hb => ?_) (hf := fun hb => ?_) <;> (try simp at hb) <;> (try (exfalso; omega))))
  all_goals exact FinM.ret ResM.auto
theorem neg_okF {b : Rat} (h : okF b) : okF (-b) := ⟨by rw [Rat.neg_num]; exact okZ_neg h.1, by rw [Rat.neg_den]; exact h.2⟩
theorem fsub_yes (a b : Rat) (ha : okF a) (hb : okF b) (h : addOk a (-b)) : ACalls Try.prog 31 [zF a, zF b] (.tup [zF (a - b), cI 0]) := by
  have r1 := fright_yes a ha
  have r2 := fright_yes b hb
  have n1 := neg_ok b.num hb.1
  have a1 := add_yes a (-b) ha (neg_okF hb) h
  rw [show zF (-b) = zF2 (-b.num) b.den by show zF2 (-b).num ((-b).den : Int) = _; rw [Rat.neg_num, Rat.neg_den], ← Rat.sub_eq_add_neg] at a1
  generalize a - b = r at *
  refine ACalls.of_M TYok (qs := [zF r, cI 0]) [.cell 4 26, .tmp 5] 25 Try.func31 (by kernel_rfl) rfl rfl rfl fun G => ?_
  refine W.initA (hw := ?_)
  repeat' (first | ((first | apply U_ | (apply Ug_; exact rfl; exact rfl) | (apply Ugq_; exact rfl; exact rfl) | apply Lex.u | (apply Lex.g; exact rfl; exact rfl) | (apply Lex.gq; exact rfl; exact rfl)); (first | exact QX.B TYok | exact QX.Ext TYok | exact QX.Build TYok | exact QCd (r1) | exact QCd (r2) | exact QCd (n1) | exact QCd (a1)); exact rfl) | refine SX.Alloc TYok (h := ?_) | refine SX.Store TYok (h := ?_) | refine SX.Box TYok (h := ?_) | refine SC ?_ | refine SG ?_ | (apply W.draw2 (id := 3) [0, 0, 2, 6, 0, 16, 62, 127, 255, 255, 1023, 2047] [[2], [3], [16], [17], [3], [19], [18, 20], [15, 21], [22], [22]] 10 [(15, 4), (16, 8), (17, 65536), (18, 131072), (19, 8), (20, 524288), (21, 1310720), (22, 2129920), (23, 4194304), (24, 4194304)] mixed (by kernel_rfl) rfl rfl) | (refine W.condA (ht := fun hb => ?_) (hf := fun hb => ?_) <;> (try simp at hb) <;> (try (exfalso; omega))))
  all_goals exact FinM.ret ResM.auto
end
end Go.Proofs.Ytndfnihglpconaa
end
section
set_option linter.unusedVariables false
set_option linter.unusedSimpArgs false
set_option maxHeartbeats 8000000
namespace Go.Proofs.Ytndfnihglpconaa
open Lf Go
attribute [local irreducible] PureOp EffOp Ev RG W Then InBlock Lf.Fin nth App InitE Pick SubE EvL EvD EvP EvR ResL Lf.Lex SubR SubBR FinO FinM ResM ResD FinS val pw digs trimL
theorem cmp_cases (x y : Int) : (cmpI x y = -1 ∧ x < y) ∨ (cmpI x y = 0 ∧ x = y) ∨ (cmpI x y = 1 ∧ y < x) := by
  unfold cmpI
  split
  · exact .inl ⟨rfl, ‹_›⟩
  · split
    · exact .inr (.inr ⟨rfl, ‹_›⟩)
    · exact .inr (.inl ⟨rfl, by omega⟩)
theorem cmp_swap (x y : Int) : cmpI y x = -cmpI x y := by
  have := cmp_cases x y
  have := cmp_cases y x
  omega
def cmpR (a b : Rat) : Int := cmpI (a.num * b.den) (b.num * a.den)
theorem quo_ltQ {p q r s : Int} (hq : 0 < q) (hs : 0 < s) (h : quoZ p q < quoZ r s) : p * s < r * q := by
  have h1 := quo_rem p q
  have h2 := quo_rem r s
  have h3 := (rem_rng (x := p) (y := q) (by omega)).1 hq
  have h4 := (rem_rng (x := r) (y := s) (by omega)).1 hs
  generalize quoZ p q = x at *
  generalize remZ p q = u at *
  generalize quoZ r s = y at *
  generalize remZ r s = v at *
  have a1 := Int.mul_nonneg (Int.mul_nonneg (show 0 ≤ q by omega) (show 0 ≤ s by omega)) (show 0 ≤ y - x - 1 by omega)
  have a2 := Int.mul_nonneg (show 0 ≤ q by omega) h4.1
  have a3 := Int.mul_nonneg (show 0 ≤ q - 1 - u by omega) (show 0 ≤ s by omega)
  have e : r * q - p * s = q * s * (y - x - 1) + q * v + s + (q - 1 - u) * s := by rw [h1, h2]; grind
  omega
theorem cmp_quo {p q r s : Int} (hq : 0 < q) (hs : 0 < s) (h : quoZ p q ≠ quoZ r s) : cmpI (p * s) (r * q) = cmpI (quoZ p q) (quoZ r s) := by
  have c := cmp_cases (quoZ p q) (quoZ r s)
  have c' := cmp_cases (p * s) (r * q)
  rcases Int.lt_or_gt_of_ne h with h1 | h1
  · have := quo_ltQ hq hs h1; omega
  · have := quo_ltQ hs hq h1; omega
theorem cmp_same {p q r s : Int} (h : quoZ p q = quoZ r s) : cmpI (p * s) (r * q) = cmpI (remZ p q * s) (remZ r s * q) := by
  have h1 := quo_rem p q
  have h2 := quo_rem r s
  rw [h] at h1
  generalize quoZ r s = y at *
  generalize remZ p q = u at *
  generalize remZ r s = v at *
  have e : p * s - r * q = u * s - v * q := by rw [h1, h2]; grind
  have c := cmp_cases (p * s) (r * q)
  have c' := cmp_cases (u * s) (v * q)
  omega
theorem cmp_end {u s v q : Int} (hq : 0 < q) (hs : 0 < s) (hu : 0 ≤ u) (hv : 0 ≤ v) (h : u = 0 ∨ v = 0) : cmpI (u * s) (v * q) = sgn u - sgn v := by
  have cu := sgn_cases u
  have cv := sgn_cases v
  have c := cmp_cases (u * s) (v * q)
  rcases h with rfl | rfl
  · rw [Int.zero_mul] at *
    by_cases h0 : v = 0
    · subst h0; rw [Int.zero_mul] at *; omega
    · have := Int.mul_pos (show 0 < v by omega) hq; omega
  · rw [Int.zero_mul] at *
    by_cases h0 : u = 0
    · subst h0; rw [Int.zero_mul] at *; omega
    · have := Int.mul_pos (show 0 < u by omega) hs; omega
structure CS where
  p : Int
  q : Int
  r : Int
  s : Int
  t : Int
structure CI (T : Int) (z : CS) : Prop where
  op : okZ z.p
  oq : okZ z.q
  or : okZ z.r
  os : okZ z.s
  hq : 0 < z.q
  hs : 0 < z.s
  ht : z.t = 1 ∨ z.t = -1
  eq : z.t * cmpI (z.p * z.s) (z.r * z.q) = T
abbrev bz (x : Int) : Blk := ⟨24, 2, [[.int .i64 (sgn x), .sl ((digs (mag x)).map Lf.encI)]]⟩
attribute [local irreducible] sgn mag gcdZ quoZ remZ fullZ fullE
theorem fcmp_ok (a b : Rat) (ha : okF a) (hB : okF b) : ACalls Try.prog 26 [zF a, zF b] (.pv (cI (cmpR a b))) := by
  have r1 := fright_yes a ha
  have r2 := fright_yes b hB
  have da := den_pos a
  have db := den_pos b
  refine ACalls.of_W (qs := [cI (cmpR a b)]) [4] 78 Try.func26 (by kernel_rfl) rfl rfl rfl fun G => ?_
  refine W.initA (hw := ?_)
  repeat' (first | ((first | apply U_ | (apply Ug_; exact rfl; exact rfl) | (apply Ugq_; exact rfl; exact rfl)); (first | exact QX.B TYok | exact QX.Ext TYok | exact QCd (r1) | exact QCd (r2)); exact rfl) | refine SX.Alloc TYok (h := ?_) | refine SX.Store TYok (h := ?_) | refine SX.Box TYok (h := ?_) | refine SC ?_ | (apply S_isnil TYok; exact rfl; exact rfl; exact rfl; exact Ev.auto; intro bn hnil) | refine SG ?_ | apply LexS.nil | (apply LexS.f; exact rfl; (first | (apply FreshV.alloc TYok; exact rfl; exact rfl; exact rfl; exact rfl) | (apply FreshV.lit TYok; (repeat (first | exact EvR.nil | apply EvR.cons Ev.auto)); exact rfl; exact rfl; exact rfl; exact rfl; exact rfl; exact rfl; exact rfl; exact rfl; exact rfl) | (apply FreshV.box; exact Ev.auto; exact rfl; exact rfl; exact rfl)); exact rfl; exact rfl; exact rfl) | (apply LexS.s; exact rfl; exact rfl; (apply StoreV.mk TYok; exact Ev.auto; exact Ev.auto; exact rfl; exact rfl; exact rfl; exact rfl; exact rfl)) | ((first | apply LexS.u | (apply LexS.g; exact rfl; exact rfl) | (apply LexS.gq; exact rfl; exact rfl)); (repeat (first | (apply NB.cons; exact rfl) | exact NB.nil rfl)); (first | exact QX.B TYok | exact QX.Ext TYok | exact QCd (r1) | exact QCd (r2)); exact rfl; exact rfl; exact rfl) | (refine W.drawS (id := 3) [0, 1, 0, 4, 0, 16, 0, 64, 0, 0, 0, 0, 3843, 7951, 16191, 32767] [[2], [25], [2], [27], [3], [29], [3], [31], [], [], [], [], [5, 26], [6, 28], [7, 30], [8, 32]] [(15, (8, ?_)), (14, (7, ?_)), (13, (6, ?_)), (12, (5, ?_)), (11, (8, ?_)), (10, (7, ?_)), (9, (6, ?_)), (8, (5, ?_))] [(15, 8), (14, 7), (13, 6), (12, 5), (11, 8), (10, 7), (9, 6), (8, 5)] mixed (by kernel_rfl) rfl ?_; rotate_left 8) | (refine W.drawA (id := 13) (L := [false, false, false, false, false, false, false, false]) mixed rfl ?_) | exact RAll.nil | (refine RAll.cons rfl ?_ ?_) | (refine RA.step (L := [false, false, false, false, false, false, false, false]) (i := 0) (is := [1, 2, 3]) (by kernel_rfl) ?_) | (refine RA.step (L := [false, false, false, true, false, false, false, false]) (i := 0) (is := [1, 2]) (by kernel_rfl) ?_) | (refine RA.step (L := [false, false, true, true, false, false, false, false]) (i := 0) (is := [1]) (by kernel_rfl) ?_) | (refine RA.step (L := [false, true, true, true, false, false, false, false]) (i := 0) (is := []) (by kernel_rfl) ?_) | (refine RA.step (L := [true, true, true, true, false, false, false, false]) (i := 4) (is := []) (by kernel_rfl) ?_) | (refine RA.step (L := [true, true, true, true, true, false, false, false]) (i := 5) (is := []) (by kernel_rfl) ?_) | (refine RA.step (L := [true, true, true, true, true, true, false, false]) (i := 6) (is := []) (by kernel_rfl) ?_) | (refine RA.step (L := [true, true, true, true, true, true, true, false]) (i := 7) (is := []) (by kernel_rfl) ?_) | (refine RA.done (L := [true, true, true, true, true, true, true, true]) (by kernel_rfl) ?_) | (refine RA.step (L := [true, false, true, true, false, false, false, false]) (i := 1) (is := [4]) (by kernel_rfl) ?_) | (refine RA.step (L := [true, false, true, true, true, false, false, false]) (i := 1) (is := []) (by kernel_rfl) ?_) | (refine RA.step (L := [false, true, false, true, false, false, false, false]) (i := 0) (is := [2]) (by kernel_rfl) ?_) | (refine RA.step (L := [true, true, false, true, false, false, false, false]) (i := 2) (is := [4]) (by kernel_rfl) ?_) | (refine RA.step (L := [true, true, false, true, true, false, false, false]) (i := 2) (is := [5]) (by kernel_rfl) ?_) | (refine RA.step (L := [true, true, false, true, true, true, false, false]) (i := 2) (is := []) (by kernel_rfl) ?_) | (refine RA.step (L := [true, false, false, true, false, false, false, false]) (i := 1) (is := [2, 4]) (by kernel_rfl) ?_) | (refine RA.step (L := [true, false, false, true, true, false, false, false]) (i := 1) (is := [2]) (by kernel_rfl) ?_) | (refine RA.step (L := [false, false, true, false, false, false, false, false]) (i := 0) (is := [1, 3]) (by kernel_rfl) ?_) | (refine RA.step (L := [false, true, true, false, false, false, false, false]) (i := 0) (is := [3]) (by kernel_rfl) ?_) | (refine RA.step (L := [true, true, true, false, false, false, false, false]) (i := 3) (is := [4]) (by kernel_rfl) ?_) | (refine RA.step (L := [true, true, true, false, true, false, false, false]) (i := 3) (is := [5]) (by kernel_rfl) ?_) | (refine RA.step (L := [true, true, true, false, true, true, false, false]) (i := 3) (is := [6]) (by kernel_rfl) ?_) | (refine RA.step (L := [true, true, true, false, true, true, true, false]) (i := 3) (is := []) (by kernel_rfl) ?_) | (refine RA.step (L := [true, false, true, false, false, false, false, false]) (i := 1) (is := [3, 4]) (by kernel_rfl) ?_) | (refine RA.step (L := [true, false, true, false, true, false, false, false]) (i := 1) (is := [3]) (by kernel_rfl) ?_) | (refine RA.step (L := [false, true, false, false, false, false, false, false]) (i := 0) (is := [2, 3]) (by kernel_rfl) ?_) | (refine RA.step (L := [true, true, false, false, false, false, false, false]) (i := 2) (is := [3, 4]) (by kernel_rfl) ?_) | (refine RA.step (L := [true, true, false, false, true, false, false, false]) (i := 2) (is := [3, 5]) (by kernel_rfl) ?_) | (refine RA.step (L := [true, true, false, false, true, true, false, false]) (i := 2) (is := [3]) (by kernel_rfl) ?_) | (refine RA.step (L := [true, false, false, false, false, false, false, false]) (i := 1) (is := [2, 3, 4]) (by kernel_rfl) ?_) | (refine RA.step (L := [true, false, false, false, true, false, false, false]) (i := 1) (is := [2, 3]) (by kernel_rfl) ?_) | (refine W.condA (ht := fun hb => ?_) (hf := fun hb => ?_) <;> (try simp at hb) <;> (try (exfalso; omega))))
  apply W.loopP (σ := CS) 78 [] (CI (cmpR a b)) (fun z => [(9, vI z.t), (5, (True, .addr 5 0 0)), (6, (True, .addr 6 0 0)), (7, (True, .addr 7 0 0)), (8, (True, .addr 8 0 0))]) (fun z => [(5, bz z.p), (6, bz z.q), (7, bz z.r), (8, bz z.s)]) (fun z => z.q.toNat) (⟨a.num, a.den, b.num, b.den, 1⟩)
  case hp => repeat (first | exact Pick.nil | apply Pick.cons rfl)
  case h0 =>
    refine ⟨⟨ha.1, ha.2, hB.1, hB.2, da, db, .inl rfl, by rw [Int.one_mul]; rfl⟩, ?_⟩
    exact Le.auto
  case round =>
    rintro ⟨p, q, r, s, t⟩ ⟨op, oq, or', os, hq, hs, ht, he⟩
    simp only at op oq or' os hq hs ht he
    have d1 := divZ_ok p q op oq (by omega)
    have d2 := divZ_ok r s or' os (by omega)
    have k1 := cmpZ_ok (quoZ p q) (quoZ r s) (okZ_quo op (by omega)) (okZ_quo or' (by omega))
    have hu := (rem_rng (x := p) (y := q) (by omega)).1 hq
    have hv := (rem_rng (x := r) (y := s) (by omega)).1 hs
    have ou := okZ_rem (x := p) oq (by omega)
    have ov := okZ_rem (x := r) os (by omega)
    have cu := sgn_cases (remZ p q)
    have cv := sgn_cases (remZ r s)
    have cc := cmp_cases (quoZ p q) (quoZ r s)
    show Lf.W _ _ _ _ (mkSt 78 [(9, vI t), (5, (True, .addr 5 0 0)), (6, (True, .addr 6 0 0)), (7, (True, .addr 7 0 0)), (8, (True, .addr 8 0 0))] _ [(5, bz p), (6, bz q), (7, bz r), (8, bz s)])
    apply W.norm (by repeat (first | exact App.nil | apply App.cons))
    by_cases h1 : quoZ p q = quoZ r s
    · have e1 := cmp_same h1
      have kc : cmpI (quoZ p q) (quoZ r s) = 0 := by omega
      rw [kc] at k1
      by_cases h2 : remZ p q = 0 ∨ remZ r s = 0
      · have e2 := cmp_end hq hs hu.1 hv.1 h2
        rw [e1, e2] at he
        have hbd : -1 ≤ t * (sgn (remZ p q) - sgn (remZ r s)) ∧ t * (sgn (remZ p q) - sgn (remZ r s)) ≤ 1 := by rcases ht with rfl | rfl <;> omega
        generalize quoZ p q = x at *
        generalize remZ p q = u at *
        generalize quoZ r s = y at *
        generalize remZ r s = v at *
        repeat' (first | ((first | apply U_ | (apply Ug_; exact rfl; exact rfl) | (apply Ugq_; exact rfl; exact rfl)); (first | exact QX.B TYok | exact QX.Ext TYok | exact QCd (d1) | exact QCd (d2) | exact QCd (k1)); exact rfl) | refine SX.Alloc TYok (h := ?_) | refine SX.Store TYok (h := ?_) | refine SX.Box TYok (h := ?_) | refine SC ?_ | (apply S_isnil TYok; exact rfl; exact rfl; exact rfl; exact Ev.auto; intro bn hnil) | refine SG ?_ | (refine W.drawA (id := 13) (L := [false, false, false, false, false, false, false, false]) mixed rfl ?_) | exact RAll.nil | (refine RAll.cons rfl ?_ ?_) | (refine RA.step (L := [false, false, false, false, false, false, false, false]) (i := 0) (is := [1, 2, 3]) (by kernel_rfl) ?_) | (refine RA.step (L := [false, false, false, true, false, false, false, false]) (i := 0) (is := [1, 2]) (by kernel_rfl) ?_) | (refine RA.step (L := [false, false, true, true, false, false, false, false]) (i := 0) (is := [1]) (by kernel_rfl) ?_) | (refine RA.step (L := [false, true, true, true, false, false, false, false]) (i := 0) (is := []) (by kernel_rfl) ?_) | (refine RA.step (L := [true, true, true, true, false, false, false, false]) (i := 4) (is := []) (by kernel_rfl) ?_) | (refine RA.step (L := [true, true, true, true, true, false, false, false]) (i := 5) (is := []) (by kernel_rfl) ?_) | (refine RA.step (L := [true, true, true, true, true, true, false, false]) (i := 6) (is := []) (by kernel_rfl) ?_) | (refine RA.step (L := [true, true, true, true, true, true, true, false]) (i := 7) (is := []) (by kernel_rfl) ?_) | (refine RA.done (L := [true, true, true, true, true, true, true, true]) (by kernel_rfl) ?_) | (refine RA.step (L := [true, false, true, true, false, false, false, false]) (i := 1) (is := [4]) (by kernel_rfl) ?_) | (refine RA.step (L := [true, false, true, true, true, false, false, false]) (i := 1) (is := []) (by kernel_rfl) ?_) | (refine RA.step (L := [false, true, false, true, false, false, false, false]) (i := 0) (is := [2]) (by kernel_rfl) ?_) | (refine RA.step (L := [true, true, false, true, false, false, false, false]) (i := 2) (is := [4]) (by kernel_rfl) ?_) | (refine RA.step (L := [true, true, false, true, true, false, false, false]) (i := 2) (is := [5]) (by kernel_rfl) ?_) | (refine RA.step (L := [true, true, false, true, true, true, false, false]) (i := 2) (is := []) (by kernel_rfl) ?_) | (refine RA.step (L := [true, false, false, true, false, false, false, false]) (i := 1) (is := [2, 4]) (by kernel_rfl) ?_) | (refine RA.step (L := [true, false, false, true, true, false, false, false]) (i := 1) (is := [2]) (by kernel_rfl) ?_) | (refine RA.step (L := [false, false, true, false, false, false, false, false]) (i := 0) (is := [1, 3]) (by kernel_rfl) ?_) | (refine RA.step (L := [false, true, true, false, false, false, false, false]) (i := 0) (is := [3]) (by kernel_rfl) ?_) | (refine RA.step (L := [true, true, true, false, false, false, false, false]) (i := 3) (is := [4]) (by kernel_rfl) ?_) | (refine RA.step (L := [true, true, true, false, true, false, false, false]) (i := 3) (is := [5]) (by kernel_rfl) ?_) | (refine RA.step (L := [true, true, true, false, true, true, false, false]) (i := 3) (is := [6]) (by kernel_rfl) ?_) | (refine RA.step (L := [true, true, true, false, true, true, true, false]) (i := 3) (is := []) (by kernel_rfl) ?_) | (refine RA.step (L := [true, false, true, false, false, false, false, false]) (i := 1) (is := [3, 4]) (by kernel_rfl) ?_) | (refine RA.step (L := [true, false, true, false, true, false, false, false]) (i := 1) (is := [3]) (by kernel_rfl) ?_) | (refine RA.step (L := [false, true, false, false, false, false, false, false]) (i := 0) (is := [2, 3]) (by kernel_rfl) ?_) | (refine RA.step (L := [true, true, false, false, false, false, false, false]) (i := 2) (is := [3, 4]) (by kernel_rfl) ?_) | (refine RA.step (L := [true, true, false, false, true, false, false, false]) (i := 2) (is := [3, 5]) (by kernel_rfl) ?_) | (refine RA.step (L := [true, true, false, false, true, true, false, false]) (i := 2) (is := [3]) (by kernel_rfl) ?_) | (refine RA.step (L := [true, false, false, false, false, false, false, false]) (i := 1) (is := [2, 3, 4]) (by kernel_rfl) ?_) | (refine RA.step (L := [true, false, false, false, true, false, false, false]) (i := 1) (is := [2, 3]) (by kernel_rfl) ?_) | (refine W.condA (ht := fun hb => ?_) (hf := fun hb => ?_) <;> (try simp at hb) <;> (try (exfalso; omega))))
        all_goals exact Fin.ret (ResL.cons rfl rfl (PSub.of_eq (congrArg (fun n => PV.one (Cell.int .i64 n)) he)) ResL.nil)
      · have e3 := cmp_swap (remZ p q * s) (remZ r s * q)
        have hnew : -t * cmpI (q * remZ r s) (s * remZ p q) = cmpR a b := by
          rw [← he, e1, Int.mul_comm q, Int.mul_comm s, e3, Int.neg_mul_neg]
        generalize quoZ p q = x at *
        generalize hu' : remZ p q = u at *
        generalize quoZ r s = y at *
        generalize hv' : remZ r s = v at *
        repeat' (first | ((first | apply U_ | (apply Ug_; exact rfl; exact rfl) | (apply Ugq_; exact rfl; exact rfl)); (first | exact QX.B TYok | exact QX.Ext TYok | exact QCd (d1) | exact QCd (d2) | exact QCd (k1)); exact rfl) | refine SX.Alloc TYok (h := ?_) | refine SX.Store TYok (h := ?_) | refine SX.Box TYok (h := ?_) | refine SC ?_ | (apply S_isnil TYok; exact rfl; exact rfl; exact rfl; exact Ev.auto; intro bn hnil) | refine SG ?_ | apply LexS.nil | (apply LexS.f; exact rfl; (first | (apply FreshV.alloc TYok; exact rfl; exact rfl; exact rfl; exact rfl) | (apply FreshV.lit TYok; (repeat (first | exact EvR.nil | apply EvR.cons Ev.auto)); exact rfl; exact rfl; exact rfl; exact rfl; exact rfl; exact rfl; exact rfl; exact rfl; exact rfl) | (apply FreshV.box; exact Ev.auto; exact rfl; exact rfl; exact rfl)); exact rfl; exact rfl; exact rfl) | (apply LexS.s; exact rfl; exact rfl; (apply StoreV.mk TYok; exact Ev.auto; exact Ev.auto; exact rfl; exact rfl; exact rfl; exact rfl; exact rfl)) | ((first | apply LexS.u | (apply LexS.g; exact rfl; exact rfl) | (apply LexS.gq; exact rfl; exact rfl)); (repeat (first | (apply NB.cons; exact rfl) | exact NB.nil rfl)); (first | exact QX.B TYok | exact QX.Ext TYok | exact QCd (d1) | exact QCd (d2) | exact QCd (k1)); exact rfl; exact rfl; exact rfl) | (refine W.drawS (id := 13) [0, 0, 0, 0, 1, 19, 55, 127] [[6], [11], [8], [14], [5, 74], [6, 75], [7, 76], [8, 77]] [(7, (8, ?_)), (6, (7, ?_)), (5, (6, ?_)), (4, (5, ?_))] [(7, 8), (6, 7), (5, 6), (4, 5)] mixed (by kernel_rfl) rfl ?_; rotate_left 4) | (refine W.condA (ht := fun hb => ?_) (hf := fun hb => ?_) <;> (try simp at hb) <;> (try (exfalso; omega))))
        all_goals (refine ⟨⟨q, u, s, v, -t⟩, ⟨oq, ou, os, ov, by show 0 < u; omega, by show 0 < v; omega, by show -t = 1 ∨ -t = -1; omega, hnew⟩, ?_, by show u.toNat < q.toNat; omega⟩; exact Le.auto)
    · have e1 := cmp_quo hq hs h1
      rw [e1] at he
      have hbd : -1 ≤ t * cmpI (quoZ p q) (quoZ r s) ∧ t * cmpI (quoZ p q) (quoZ r s) ≤ 1 := by rcases ht with rfl | rfl <;> omega
      generalize cmpI (quoZ p q) (quoZ r s) = c at *
      generalize quoZ p q = x at *
      generalize remZ p q = u at *
      generalize quoZ r s = y at *
      generalize remZ r s = v at *
      repeat' (first | ((first | apply U_ | (apply Ug_; exact rfl; exact rfl) | (apply Ugq_; exact rfl; exact rfl)); (first | exact QX.B TYok | exact QX.Ext TYok | exact QCd (d1) | exact QCd (d2) | exact QCd (k1)); exact rfl) | refine SX.Alloc TYok (h := ?_) | refine SX.Store TYok (h := ?_) | refine SX.Box TYok (h := ?_) | refine SC ?_ | (apply S_isnil TYok; exact rfl; exact rfl; exact rfl; exact Ev.auto; intro bn hnil) | refine SG ?_ | (refine W.drawA (id := 13) (L := [false, false, false, false, false, false, false, false]) mixed rfl ?_) | exact RAll.nil | (refine RAll.cons rfl ?_ ?_) | (refine RA.step (L := [false, false, false, false, false, false, false, false]) (i := 0) (is := [1, 2, 3]) (by kernel_rfl) ?_) | (refine RA.step (L := [false, false, false, true, false, false, false, false]) (i := 0) (is := [1, 2]) (by kernel_rfl) ?_) | (refine RA.step (L := [false, false, true, true, false, false, false, false]) (i := 0) (is := [1]) (by kernel_rfl) ?_) | (refine RA.step (L := [false, true, true, true, false, false, false, false]) (i := 0) (is := []) (by kernel_rfl) ?_) | (refine RA.step (L := [true, true, true, true, false, false, false, false]) (i := 4) (is := []) (by kernel_rfl) ?_) | (refine RA.step (L := [true, true, true, true, true, false, false, false]) (i := 5) (is := []) (by kernel_rfl) ?_) | (refine RA.step (L := [true, true, true, true, true, true, false, false]) (i := 6) (is := []) (by kernel_rfl) ?_) | (refine RA.step (L := [true, true, true, true, true, true, true, false]) (i := 7) (is := []) (by kernel_rfl) ?_) | (refine RA.done (L := [true, true, true, true, true, true, true, true]) (by kernel_rfl) ?_) | (refine RA.step (L := [true, false, true, true, false, false, false, false]) (i := 1) (is := [4]) (by kernel_rfl) ?_) | (refine RA.step (L := [true, false, true, true, true, false, false, false]) (i := 1) (is := []) (by kernel_rfl) ?_) | (refine RA.step (L := [false, true, false, true, false, false, false, false]) (i := 0) (is := [2]) (by kernel_rfl) ?_) | (refine RA.step (L := [true, true, false, true, false, false, false, false]) (i := 2) (is := [4]) (by kernel_rfl) ?_) | (refine RA.step (L := [true, true, false, true, true, false, false, false]) (i := 2) (is := [5]) (by kernel_rfl) ?_) | (refine RA.step (L := [true, true, false, true, true, true, false, false]) (i := 2) (is := []) (by kernel_rfl) ?_) | (refine RA.step (L := [true, false, false, true, false, false, false, false]) (i := 1) (is := [2, 4]) (by kernel_rfl) ?_) | (refine RA.step (L := [true, false, false, true, true, false, false, false]) (i := 1) (is := [2]) (by kernel_rfl) ?_) | (refine RA.step (L := [false, false, true, false, false, false, false, false]) (i := 0) (is := [1, 3]) (by kernel_rfl) ?_) | (refine RA.step (L := [false, true, true, false, false, false, false, false]) (i := 0) (is := [3]) (by kernel_rfl) ?_) | (refine RA.step (L := [true, true, true, false, false, false, false, false]) (i := 3) (is := [4]) (by kernel_rfl) ?_) | (refine RA.step (L := [true, true, true, false, true, false, false, false]) (i := 3) (is := [5]) (by kernel_rfl) ?_) | (refine RA.step (L := [true, true, true, false, true, true, false, false]) (i := 3) (is := [6]) (by kernel_rfl) ?_) | (refine RA.step (L := [true, true, true, false, true, true, true, false]) (i := 3) (is := []) (by kernel_rfl) ?_) | (refine RA.step (L := [true, false, true, false, false, false, false, false]) (i := 1) (is := [3, 4]) (by kernel_rfl) ?_) | (refine RA.step (L := [true, false, true, false, true, false, false, false]) (i := 1) (is := [3]) (by kernel_rfl) ?_) | (refine RA.step (L := [false, true, false, false, false, false, false, false]) (i := 0) (is := [2, 3]) (by kernel_rfl) ?_) | (refine RA.step (L := [true, true, false, false, false, false, false, false]) (i := 2) (is := [3, 4]) (by kernel_rfl) ?_) | (refine RA.step (L := [true, true, false, false, true, false, false, false]) (i := 2) (is := [3, 5]) (by kernel_rfl) ?_) | (refine RA.step (L := [true, true, false, false, true, true, false, false]) (i := 2) (is := [3]) (by kernel_rfl) ?_) | (refine RA.step (L := [true, false, false, false, false, false, false, false]) (i := 1) (is := [2, 3, 4]) (by kernel_rfl) ?_) | (refine RA.step (L := [true, false, false, false, true, false, false, false]) (i := 1) (is := [2, 3]) (by kernel_rfl) ?_) | (refine W.condA (ht := fun hb => ?_) (hf := fun hb => ?_) <;> (try simp at hb) <;> (try (exfalso; omega))))
      all_goals exact Fin.ret (ResL.cons rfl rfl (PSub.of_eq (congrArg (fun n => PV.one (Cell.int .i64 n)) he)) ResL.nil)
end Go.Proofs.Ytndfnihglpconaa
end
section
set_option linter.unusedVariables false
set_option linter.unusedSimpArgs false
set_option maxHeartbeats 8000000
namespace Go.Proofs.Ytndfnihglpconaa
open Lf Go
attribute [local irreducible] PureOp EffOp Ev RG W Then InBlock Lf.Fin nth App InitE Pick SubE EvL EvD EvP EvR ResL Lf.Lex SubR SubBR FinO FinM ResM ResD FinS val pw digs trimL
section
theorem sameBig_ok (s s' : Int) (a b : List Int) (hl : a.length ≤ 1000000) (hl' : b.length ≤ 1000000) : ACalls Try.prog 40 [aB s a, aB s' b] (.pv (cB (decide (s = s') && decide (a = b)))) := by
  by_cases h0 : s = s' ∧ a.length = b.length
  case neg =>
    have e : (decide (s = s') && decide (a = b)) = false := by
      rw [Bool.and_eq_false_iff, decide_eq_false_iff_not, decide_eq_false_iff_not]
      by_cases hs : s = s'
      · exact .inr fun e => h0 ⟨hs, by rw [e]⟩
      · exact .inl hs
    rw [e]
    refine ACalls.of_W (qs := [cB false]) [4] 38 Try.func40 (by kernel_rfl) rfl rfl rfl fun G => ?_
    refine W.initA (hw := ?_)
    repeat' (first | (exfalso; omega) | ((first | apply U_ | (apply Ug_; exact rfl; exact rfl) | (apply Ugq_; exact rfl; exact rfl) | apply Lex.u | (apply Lex.g; exact rfl; exact rfl) | (apply Lex.gq; exact rfl; exact rfl)); (first | exact QX.B TYok | exact QX.Len TYok | exact QX.Idx TYok); exact rfl) | refine SX.Box TYok (h := ?_) | refine SC ?_ | refine SG ?_ | (apply W.draw2 (id := 6) [0, 1, 0, 7, 15, 0, 32, 0, 224, 480, 1023] [[2], [27], [5], [28, 29], [30], [3], [32], [5], [33, 34], [35], [31, 36]] 11 [(27, 4), (28, 134217728), (29, 32), (30, 805306368), (31, 1073741824), (32, 8), (33, 4294967296), (34, 32), (35, 25769803776), (36, 34359738368), (37, 70866960384)] mixed (by kernel_rfl) rfl rfl) | (refine W.condA (ht := fun hb => ?_) (hf := fun hb => ?_) <;> (try simp at hb) <;> (try (exfalso; omega))))
    exact Fin.ret ResL.auto
  obtain ⟨rfl, hab⟩ := h0
  rw [decide_eq_true rfl, Bool.true_and]
  refine ACalls.of_W (qs := [cB (decide (a = b))]) [4] 38 Try.func40 (by kernel_rfl) rfl rfl rfl fun G => ?_
  refine W.initA (hw := ?_)
  repeat' (first | ((first | apply U_ | (apply Ug_; exact rfl; exact rfl) | (apply Ugq_; exact rfl; exact rfl) | apply Lex.u | (apply Lex.g; exact rfl; exact rfl) | (apply Lex.gq; exact rfl; exact rfl)); (first | exact QX.B TYok | exact QX.Len TYok | exact QX.Idx TYok); exact rfl) | refine SX.Box TYok (h := ?_) | refine SC ?_ | refine SG ?_ | (apply W.draw2 (id := 6) [0, 1, 0, 7, 15, 0, 32, 0, 224, 480, 1023] [[2], [27], [5], [28, 29], [30], [3], [32], [5], [33, 34], [35], [31, 36]] 11 [(27, 4), (28, 134217728), (29, 32), (30, 805306368), (31, 1073741824), (32, 8), (33, 4294967296), (34, 32), (35, 25769803776), (36, 34359738368), (37, 70866960384)] mixed (by kernel_rfl) rfl rfl) | (refine W.condA (ht := fun hb => ?_) (hf := fun hb => ?_) <;> (try simp at hb) <;> (try (exfalso; omega))))
  apply W.loopP (σ := Nat) 38 [2, 3] (fun k => k ≤ a.length ∧ a.take k = b.take k) (fun k => [(5, vI k)]) (fun _ => [(2, ⟨24, 2, [[.int .i64 s, .sl (a.map Lf.encI)]]⟩), (3, ⟨24, 2, [[.int .i64 s, .sl (b.map Lf.encI)]]⟩)]) (fun k => a.length - k) (0)
  case hp => repeat (first | exact Pick.nil | apply Pick.cons rfl)
  case h0 =>
    refine ⟨by simp, ?_⟩
    exact Le.auto
  case round =>
    rintro k ⟨g1, g2⟩
    apply W.norm (by repeat (first | exact App.nil | apply App.cons))
    repeat' (first | ((first | apply U_ | (apply Ug_; exact rfl; exact rfl) | (apply Ugq_; exact rfl; exact rfl) | apply Lex.u | (apply Lex.g; exact rfl; exact rfl) | (apply Lex.gq; exact rfl; exact rfl)); (first | exact QX.B TYok | exact QX.Len TYok | exact QX.Idx TYok); exact rfl) | refine SX.Box TYok (h := ?_) | refine SC ?_ | refine SG ?_ | (apply W.draw2 (id := 6) [0, 1, 0, 7, 15, 0, 32, 0, 224, 480, 1023] [[2], [27], [5], [28, 29], [30], [3], [32], [5], [33, 34], [35], [31, 36]] 11 [(27, 4), (28, 134217728), (29, 32), (30, 805306368), (31, 1073741824), (32, 8), (33, 4294967296), (34, 32), (35, 25769803776), (36, 34359738368), (37, 70866960384)] mixed (by kernel_rfl) rfl rfl) | (refine W.condA (ht := fun hb => ?_) (hf := fun hb => ?_) <;> (try simp at hb) <;> (try (exfalso; omega))))
    · rw [decide_eq_false (fun e => by subst e; omega)]
      exact Fin.ret ResL.auto
    · refine ⟨k + 1, ⟨by omega, ?_⟩, ?_, by omega⟩
      · rw [take_nth (by omega), take_nth (by omega), g2, hb]
      · exact Le.auto
    · obtain rfl : k = a.length := by omega
      rw [List.take_length, hab, List.take_length] at g2
      rw [decide_eq_true g2]
      exact Fin.ret ResL.auto
theorem sameBigZ_ok (x y : Int) (hx : okZ x) (hy : okZ y) : ACalls Try.prog 40 [zB x, zB y] (.pv (cB (decide (x = y)))) := by
  have h := sameBig_ok (sgn x) (sgn y) (digs (mag x)) (digs (mag y)) (by have := num_len hx; omega) (by have := num_len hy; omega)
  rw [show (decide (sgn x = sgn y) && decide (digs (mag x) = digs (mag y))) = decide (x = y) by
    rw [Bool.eq_iff_iff, Bool.and_eq_true, decide_eq_true_iff, decide_eq_true_iff, decide_eq_true_iff]
    exact ⟨fun h => num_inj h.1 h.2, fun h => by rw [h]; exact ⟨rfl, rfl⟩⟩] at h
  exact h
theorem same_frac (a b : Rat) : (decide (a.num = b.num) && decide ((a.den : Int) = b.den)) = decide (a = b) := by
  rw [← Bool.decide_and]
  exact decide_eq_decide.2 ⟨fun h => Rat.ext h.1 (by omega), fun h => by subst h; exact ⟨rfl, rfl⟩⟩
attribute [local irreducible] sgn mag gcdZ quoZ remZ fullZ fullE
theorem same_ok (a b : Rat) (ha : okF a) (hB : okF b) : ACalls Try.prog 17 [zF a, zF b] (.pv (cB (decide (a = b)))) := by
  have s1 := sameBigZ_ok a.num b.num ha.1 hB.1
  have s2 := sameBigZ_ok a.den b.den ha.2 hB.2
  rw [← same_frac]
  refine ACalls.of_W (qs := [cB (decide (a.num = b.num) && decide ((a.den : Int) = b.den))]) [4] 17 Try.func17 (by kernel_rfl) rfl rfl rfl fun G => ?_
  refine W.initA (hw := ?_)
  repeat' (first | ((first | apply U_ | (apply Ug_; exact rfl; exact rfl) | (apply Ugq_; exact rfl; exact rfl)); (first | exact QX.B TYok | exact QCd (s1) | exact QCd (s2)); exact rfl) | refine SX.Box TYok (h := ?_) | refine SC ?_ | refine SG ?_ | (refine W.condA (ht := fun hb => ?_) (hf := fun hb => ?_) <;> (try simp at hb) <;> (try (exfalso; omega))))
  all_goals exact Fin.ret ResL.auto
theorem Of_ok (p q : Int) (hp : i64B p) (hq : i64B q) (h0 : q ≠ 0) : ACalls Try.prog 50 [cI p, cI q] (.tup [zF (Rat.divInt p q), cI 0]) := by
  have z1 := ofZ_ok p hp
  have z2 := ofZ_ok q hq
  have n1 := new_ok p q (i64_ok hp) (i64_ok hq) h0
  generalize Rat.divInt p q = r at *
  refine ACalls.of_M TYok (qs := [zF r, cI 0]) [.cell 4 26, .tmp 5] 13 Try.func50 (by kernel_rfl) rfl rfl rfl fun G => ?_
  refine W.initA (hw := ?_)
  repeat' (first | ((first | apply U_); (first | exact QX.B TYok | exact QX.Ext TYok | exact QCd (z1) | exact QCd (z2) | exact QCd (n1)); exact rfl) | refine SX.Alloc TYok (h := ?_) | refine SX.Store TYok (h := ?_) | refine SC ?_ | (refine W.condA (ht := fun hb => ?_) (hf := fun hb => ?_) <;> (try simp at hb) <;> (try (exfalso; omega))))
  all_goals exact FinM.ret ResM.auto
end
end Go.Proofs.Ytndfnihglpconaa
end
section
set_option linter.unusedVariables false
set_option linter.unusedSimpArgs false
set_option maxHeartbeats 8000000
namespace Go.Proofs.Ytndfnihglpconaa
open Lf Go
attribute [local irreducible] PureOp EffOp Ev RG W Then InBlock Lf.Fin nth App InitE Pick SubE EvL EvD EvP EvR ResL Lf.Lex SubR SubBR FinO FinM ResM ResD FinS val pw digs trimL
section
attribute [local irreducible] sgn mag gcdZ quoZ remZ fullZ fullE
theorem right_sgn {s : Int} {l : List Int} (h : rightB s l = true) : -1 ≤ s ∧ s ≤ 1 := by
  obtain ⟨x, ox, rfl, rfl⟩ := right_num h
  have := sgn_cases x
  omega
theorem qright_ok (s : Int) (l : List Int) (s' : Int) (l' : List Int) (hl : l.length ≤ 9223372036854775807) (hl' : l'.length ≤ 9223372036854775807) : ACalls Try.prog 15 [fB s l s' l'] (.pv (cB (rightFB s l s' l'))) := by
  have r1 := rright_ok s l hl
  have r2 := rright_ok s' l' hl'
  have hs2 : rightB s' l' = true → s' ≤ 1 := fun h => (right_sgn h).2
  by_cases hw : (rightB s l = true ∧ rightB s' l' = true) ∧ s' = 1
  case neg =>
    have e : rightFB s l s' l' = false := by
      unfold rightFB
      cases h1 : rightB s l <;> cases h2 : rightB s' l' <;> simp_all
    rw [e]
    generalize rightB s l = b1 at r1 hw
    generalize rightB s' l' = b2 at r2 hw hs2
    have hbad : ((b1 = true ∧ b2 = true) ∧ 1 ≤ s') → False := fun h => hw ⟨h.1, by have := hs2 h.1.2; omega⟩
    refine ACalls.of_W (qs := [cB false]) [2] 33 Try.func15 (by kernel_rfl) rfl rfl rfl fun G => ?_
    refine W.initA (hw := ?_)
    repeat' (first | ((first | apply U_ | (apply Ug_; exact rfl; exact rfl) | (apply Ugq_; exact rfl; exact rfl) | apply Lex.u | (apply Lex.g; exact rfl; exact rfl) | (apply Lex.gq; exact rfl; exact rfl)); (first | exact QX.B TYok | exact QX.Ext TYok | exact QCd (r1) | exact QCd (r2)); exact rfl) | refine SX.Alloc TYok (h := ?_) | refine SX.Store TYok (h := ?_) | refine SX.Box TYok (h := ?_) | refine SC ?_ | (apply S_isnil TYok; exact rfl; exact rfl; exact rfl; exact Ev.auto; intro bn hnil) | refine SG ?_ | (apply W.draw2 (id := 4) [0, 0, 3, 7, 15] [[3], [], [29, 30], [31], [32]] 5 [(29, 8), (30, 0), (31, 1610612736), (32, 2147483648), (2, 4294967296)] mixed (by kernel_rfl) rfl rfl) | (refine W.condA (ht := fun hb => ?_) (hf := fun hb => ?_) <;> (try simp at hb) <;> (try (exfalso; first | exact hbad hb | omega))))
    all_goals exact Fin.ret ResL.auto
  obtain ⟨⟨q1, q2⟩, h1⟩ := hw
  have e : rightFB s l s' l' = decide (gcdZ (s * val l) (val l') = 1) := by unfold rightFB; rw [q1, q2, decide_eq_true h1]; simp
  rw [e]
  rw [q1] at r1
  rw [q2] at r2
  obtain ⟨x, ox, rfl, rfl⟩ := right_num q1
  obtain ⟨y, oy, rfl, rfl⟩ := right_num q2
  have cy := sgn_cases y
  have ey : val (digs (mag y)) = y := by rw [val_mag]; omega
  have ex : sgn x * val (digs (mag x)) = x := by rw [val_mag, sgn_mag]
  rw [ex, ey]
  have g1 := rgcdZ_ok x y ox oy
  have og := gcd_lt ox oy
  have o1 := rof_ok 1 (by unfold i64B; omega)
  have c1 := rcmpZ_ok (gcdZ x y) 1 og (i64_ok (by unfold i64B; omega))
  generalize gcdZ x y = g at *
  have hc := cmp_cases g 1
  have e2 : decide (g = 1) = decide (cmpI g 1 = 0) := decide_eq_decide.2 (by omega)
  rw [e2]
  generalize cmpI g 1 = c at *
  refine ACalls.of_W (qs := [cB (decide (c = 0))]) [2] 33 Try.func15 (by kernel_rfl) rfl rfl rfl fun G => ?_
  refine W.initA (hw := ?_)
  repeat' (first | ((first | apply U_ | (apply Ug_; exact rfl; exact rfl) | (apply Ugq_; exact rfl; exact rfl) | apply Lex.u | (apply Lex.g; exact rfl; exact rfl) | (apply Lex.gq; exact rfl; exact rfl)); (first | (apply Q_litD TYok; (repeat (first | exact EvR.nil | apply EvR.cons Ev.auto)); exact rfl; exact rfl; exact rfl; exact rfl; exact rfl; exact rfl) | exact QX.B TYok | exact QX.Ext TYok | exact QCd (r1) | exact QCd (r2) | exact QCd (g1) | exact QCd (o1) | exact QCd (c1)); exact rfl) | refine SX.Alloc TYok (h := ?_) | refine SX.Store TYok (h := ?_) | refine SX.Box TYok (h := ?_) | refine SC ?_ | (apply S_isnil TYok; exact rfl; exact rfl; exact rfl; exact Ev.auto; intro bn hnil) | refine SG ?_ | (apply W.draw2 (id := 4) [0, 0, 3, 7, 15] [[3], [], [29, 30], [31], [32]] 5 [(29, 8), (30, 0), (31, 1610612736), (32, 2147483648), (2, 4294967296)] mixed (by kernel_rfl) rfl rfl) | (refine W.condA (ht := fun hb => ?_) (hf := fun hb => ?_) <;> (try simp at hb) <;> (try (exfalso; omega))))
  all_goals exact Fin.ret ResL.auto
theorem qright_yes (r : Rat) (h : okF r) : ACalls Try.prog 15 [zF r] (.pv (cB true)) := by
  have hp := den_pos r
  have := qright_ok (sgn r.num) (digs (mag r.num)) (sgn r.den) (digs (mag r.den)) (by have := num_len h.1; omega) (by have := num_len h.2; omega)
  have e : rightFB (sgn r.num) (digs (mag r.num)) (sgn r.den) (digs (mag r.den)) = true := by
    unfold rightFB
    have c := sgn_cases r.den
    rw [num_right h.1, num_right h.2, decide_eq_true (show sgn r.den = 1 by omega), val_mag, val_mag, sgn_mag, show mag r.den = r.den by omega, num_den_gcd]; rfl
  rwa [e] at this
theorem qnew_pos (x y : Int) (hx : okZ x) (hy : okZ y) (h0 : 0 < y) : ACalls Try.prog 65 [zB x, zB y] (.tup [zF2 (quoZ x (gcdZ x y)) (quoZ y (gcdZ x y)), cI 0]) := by
  have r1 := rright_yes hx
  have r2 := rright_yes hy
  have cy := sgn_cases y
  have hg := gcd_pos (x := x) (show y ≠ 0 by omega)
  have og := gcd_lt hx hy
  have g1 := rgcdZ_ok x y hx hy
  have d1 := rdivZ_ok x (gcdZ x y) hx og (by omega)
  have d2 := rdivZ_ok y (gcdZ x y) hy og (by omega)
  generalize quoZ x (gcdZ x y) = a at *
  generalize quoZ y (gcdZ x y) = b at *
  generalize gcdZ x y = g at *
  refine ACalls.of_M TYok (qs := [zF2 a b, cI 0]) [.cell 4 26, .tmp 5] 57 Try.func65 (by kernel_rfl) rfl rfl rfl fun G => ?_
  refine W.initA (hw := ?_)
  repeat' (first | ((first | apply U_ | (apply Ug_; exact rfl; exact rfl) | (apply Ugq_; exact rfl; exact rfl)); (first | exact QX.B TYok | exact QX.Ext TYok | exact QX.Build TYok | exact QCd (r1) | exact QCd (r2) | exact QCd (g1) | exact QCd (d1) | exact QCd (d2)); exact rfl) | refine SX.Alloc TYok (h := ?_) | refine SX.Store TYok (h := ?_) | refine SX.Box TYok (h := ?_) | refine SC ?_ | (apply S_isnil TYok; exact rfl; exact rfl; exact rfl; exact Ev.auto; intro bn hnil) | refine SG ?_ | (refine W.condA (ht := fun hb => ?_) (hf := fun hb => ?_) <;> (try simp at hb) <;> (try (exfalso; omega))))
  all_goals exact FinM.ret ResM.auto
theorem qnew_neg (x y : Int) (hx : okZ x) (hy : okZ y) (h0 : y < 0) : ACalls Try.prog 65 [zB x, zB y] (.tup [zF2 (quoZ (-x) (gcdZ (-x) (-y))) (quoZ (-y) (gcdZ (-x) (-y))), cI 0]) := by
  have r1 := rright_yes hx
  have r2 := rright_yes hy
  have cy := sgn_cases y
  have n1 := rneg_ok x hx
  have n2 := rneg_ok y hy
  have ox := okZ_neg hx
  have oy := okZ_neg hy
  have hg := gcd_pos (x := -x) (show -y ≠ 0 by omega)
  have og := gcd_lt ox oy
  have g1 := rgcdZ_ok (-x) (-y) ox oy
  have d1 := rdivZ_ok (-x) (gcdZ (-x) (-y)) ox og (by omega)
  have d2 := rdivZ_ok (-y) (gcdZ (-x) (-y)) oy og (by omega)
  generalize quoZ (-x) (gcdZ (-x) (-y)) = a at *
  generalize quoZ (-y) (gcdZ (-x) (-y)) = b at *
  generalize gcdZ (-x) (-y) = g at *
  refine ACalls.of_M TYok (qs := [zF2 a b, cI 0]) [.cell 4 26, .tmp 5] 57 Try.func65 (by kernel_rfl) rfl rfl rfl fun G => ?_
  refine W.initA (hw := ?_)
  repeat' (first | ((first | apply U_ | (apply Ug_; exact rfl; exact rfl) | (apply Ugq_; exact rfl; exact rfl)); (first | exact QX.B TYok | exact QX.Ext TYok | exact QX.Build TYok | exact QCd (r1) | exact QCd (r2) | exact QCd (n1) | exact QCd (n2) | exact QCd (g1) | exact QCd (d1) | exact QCd (d2)); exact rfl) | refine SX.Alloc TYok (h := ?_) | refine SX.Store TYok (h := ?_) | refine SX.Box TYok (h := ?_) | refine SC ?_ | (apply S_isnil TYok; exact rfl; exact rfl; exact rfl; exact Ev.auto; intro bn hnil) | refine SG ?_ | (refine W.condA (ht := fun hb => ?_) (hf := fun hb => ?_) <;> (try simp at hb) <;> (try (exfalso; omega))))
  all_goals exact FinM.ret ResM.auto
theorem qnew_ok (x y : Int) (hx : okZ x) (hy : okZ y) (h0 : y ≠ 0) : ACalls Try.prog 65 [zB x, zB y] (.tup [zF (Rat.divInt x y), cI 0]) := by
  by_cases h : 0 < y
  · obtain ⟨e1, e2⟩ := divInt_pos (x := x) h
    have := qnew_pos x y hx hy h
    rwa [← e1, ← e2] at this
  · obtain ⟨e1, e2⟩ := divInt_pos (x := -x) (y := -y) (by omega)
    have := qnew_neg x y hx hy (by omega)
    rw [← e1, ← e2, divInt_flip] at this
    exact this
theorem qof_ok (p q : Int) (hp : i64B p) (hq : i64B q) (h0 : q ≠ 0) : ACalls Try.prog 57 [cI p, cI q] (.tup [zF (Rat.divInt p q), cI 0]) := by
  have z1 := rof_ok p hp
  have z2 := rof_ok q hq
  have n1 := qnew_ok p q (i64_ok hp) (i64_ok hq) h0
  generalize Rat.divInt p q = r at *
  refine ACalls.of_M TYok (qs := [zF r, cI 0]) [.cell 4 26, .tmp 5] 13 Try.func57 (by kernel_rfl) rfl rfl rfl fun G => ?_
  refine W.initA (hw := ?_)
  repeat' (first | ((first | apply U_); (first | exact QX.B TYok | exact QX.Ext TYok | exact QCd (z1) | exact QCd (z2) | exact QCd (n1)); exact rfl) | refine SX.Alloc TYok (h := ?_) | refine SX.Store TYok (h := ?_) | refine SC ?_ | (refine W.condA (ht := fun hb => ?_) (hf := fun hb => ?_) <;> (try simp at hb) <;> (try (exfalso; omega))))
  all_goals exact FinM.ret ResM.auto
end
section
attribute [local irreducible] sgn mag gcdZ quoZ remZ fullZ fullE
theorem qmade_yes (p q : Int) (hp : okZ p) (hq : okZ q) (h0 : q ≠ 0) : ACalls Try.prog 43 [zB p, zB q, cB false] (.tup [zF (Rat.divInt p q), cI 0]) := by
  have n1 := qnew_ok p q hp hq h0
  generalize Rat.divInt p q = r at *
  refine ACalls.of_M TYok (qs := [zF r, cI 0]) [.cell 6 26, .tmp 7] 15 Try.func43 (by kernel_rfl) rfl rfl rfl fun G => ?_
  refine W.initA (hw := ?_)
  repeat' (first | ((first | apply U_); (first | exact QX.B TYok | exact QX.Ext TYok | exact QX.Build TYok | exact QCd (n1)); exact rfl) | refine SX.Alloc TYok (h := ?_) | refine SX.Store TYok (h := ?_) | refine SX.Box TYok (h := ?_) | refine SC ?_ | (refine W.condA (ht := fun hb => ?_) (hf := fun hb => ?_) <;> (try simp at hb) <;> (try (exfalso; omega))))
  all_goals exact FinM.ret ResM.auto
theorem qmul_yes (a b : Rat) (ha : okF a) (hb : okF b) (h : mulOk a b) : ACalls Try.prog 22 [zF a, zF b] (.tup [zF (a * b), cI 0]) := by
  obtain ⟨h1, h2⟩ := h
  have r1 := qright_yes a ha
  have r2 := qright_yes b hb
  have m1 := rmulZ_ok a.num b.num ha.1 hb.1
  rw [(full_yes h1).1, (full_yes h1).2] at m1
  have m2 := rmulZ_ok a.den b.den ha.2 hb.2
  rw [(full_yes h2).1, (full_yes h2).2] at m2
  have q1 := qmade_yes _ _ h1 h2 (mul_ne (den_ne a) (den_ne b))
  rw [rat_mul]
  generalize Rat.divInt (a.num * b.num) (a.den * b.den) = r at *
  refine ACalls.of_M TYok (qs := [zF r, cI 0]) [.cell 4 26, .tmp 5] 46 Try.func22 (by kernel_rfl) rfl rfl rfl fun G => ?_
  refine W.initA (hw := ?_)
  repeat' (first | ((first | apply U_ | (apply Ug_; exact rfl; exact rfl) | (apply Ugq_; exact rfl; exact rfl)); (first | exact QX.B TYok | exact QX.Ext TYok | exact QX.Build TYok | exact QCd (r1) | exact QCd (r2) | exact QCd (m1) | exact QCd (m2) | exact QCd (q1)); exact rfl) | refine SX.Alloc TYok (h := ?_) | refine SX.Store TYok (h := ?_) | refine SX.Box TYok (h := ?_) | refine SC ?_ | refine SG ?_ | (refine W.condA (ht := fun hb => ?_) (hf := fun hb => ?_) <;> (try simp at hb) <;> (try (exfalso; omega))))
  all_goals exact FinM.ret ResM.auto
theorem qdiv_yes (a b : Rat) (ha : okF a) (hb : okF b) (h0 : b.num ≠ 0) (h : divOk a b) : ACalls Try.prog 35 [zF a, zF b] (.tup [zF (a / b), cI 0]) := by
  obtain ⟨h1, h2⟩ := h
  have r1 := qright_yes a ha
  have r2 := qright_yes b hb
  have cb := sgn_cases b.num
  have m1 := rmulZ_ok a.num b.den ha.1 hb.2
  rw [(full_yes h1).1, (full_yes h1).2] at m1
  have m2 := rmulZ_ok a.den b.num ha.2 hb.1
  rw [(full_yes h2).1, (full_yes h2).2] at m2
  have q1 := qmade_yes _ _ h1 h2 (mul_ne (den_ne a) h0)
  rw [rat_div a b h0]
  generalize Rat.divInt (a.num * b.den) (a.den * b.num) = r at *
  refine ACalls.of_M TYok (qs := [zF r, cI 0]) [.cell 4 26, .tmp 5] 51 Try.func35 (by kernel_rfl) rfl rfl rfl fun G => ?_
  refine W.initA (hw := ?_)
  repeat' (first | ((first | apply U_ | (apply Ug_; exact rfl; exact rfl) | (apply Ugq_; exact rfl; exact rfl)); (first | exact QX.B TYok | exact QX.Ext TYok | exact QX.Build TYok | exact QCd (r1) | exact QCd (r2) | exact QCd (m1) | exact QCd (m2) | exact QCd (q1)); exact rfl) | refine SX.Alloc TYok (h := ?_) | refine SX.Store TYok (h := ?_) | refine SX.Box TYok (h := ?_) | refine SC ?_ | (apply S_isnil TYok; exact rfl; exact rfl; exact rfl; exact Ev.auto; intro bn hnil) | refine SG ?_ | (refine W.condA (ht := fun hb => ?_) (hf := fun hb => ?_) <;> (try simp at hb) <;> (try (exfalso; omega))))
  all_goals exact FinM.ret ResM.auto
end
section
attribute [local irreducible] sgn mag gcdZ quoZ remZ fullZ fullE
def subOk (a b : Rat) : Prop := (okZ (a.num * b.den) ∧ okZ (b.num * a.den) ∧ okZ (a.num * b.den - b.num * a.den)) ∧ okZ (a.den * b.den)
theorem rat_sub (a b : Rat) : a - b = Rat.divInt (a.num * b.den - b.num * a.den) (a.den * b.den) := by
  rw [Rat.sub_eq_add_neg, rat_add, Rat.neg_num, Rat.neg_den]
  congr 1
  rw [Int.neg_mul]; omega
theorem okZ_negI {x : Int} : okZ (-x) ↔ okZ x := ⟨fun h => by have := okZ_neg h; rwa [Int.neg_neg] at this, okZ_neg⟩
theorem sub_add (a b : Rat) : subOk a b ↔ addOk a (-b) := by
  unfold subOk addOk sumOk
  rw [Rat.neg_num, Rat.neg_den, Int.neg_mul, okZ_negI, show a.num * (b.den : Int) + -(b.num * a.den) = a.num * b.den - b.num * a.den by omega]
theorem qsub_yes (a b : Rat) (ha : okF a) (hb : okF b) (h : subOk a b) : ACalls Try.prog 33 [zF a, zF b] (.tup [zF (a - b), cI 0]) := by
  obtain ⟨⟨h1, h2, h3⟩, h4⟩ := h
  have r1 := qright_yes a ha
  have r2 := qright_yes b hb
  have m1 := rmulZ_ok a.num b.den ha.1 hb.2
  rw [(full_yes h1).1, (full_yes h1).2] at m1
  have m2 := rmulZ_ok b.num a.den hb.1 ha.2
  rw [(full_yes h2).1, (full_yes h2).2] at m2
  have m3 := rmulZ_ok a.den b.den ha.2 hb.2
  rw [(full_yes h4).1, (full_yes h4).2] at m3
  have m4 := rsubZ_ok (a.num * b.den) (b.num * a.den) h1 h2
  rw [(full_yes h3).1, (full_yes h3).2] at m4
  have q1 := qmade_yes _ _ h3 h4 (mul_ne (den_ne a) (den_ne b))
  rw [rat_sub]
  generalize Rat.divInt (a.num * b.den - b.num * a.den) (a.den * b.den) = r at *
  refine ACalls.of_M TYok (qs := [zF r, cI 0]) [.cell 4 26, .tmp 5] 72 Try.func33 (by kernel_rfl) rfl rfl rfl fun G => ?_
  refine W.initA (hw := ?_)
  repeat' (first | ((first | apply U_ | (apply Ug_; exact rfl; exact rfl) | (apply Ugq_; exact rfl; exact rfl)); (first | exact QX.B TYok | exact QX.Ext TYok | exact QX.Build TYok | exact QCd (r1) | exact QCd (r2) | exact QCd (m1) | exact QCd (m2) | exact QCd (m3) | exact QCd (m4) | exact QCd (q1)); exact rfl) | refine SX.Alloc TYok (h := ?_) | refine SX.Store TYok (h := ?_) | refine SX.Box TYok (h := ?_) | refine SC ?_ | refine SG ?_ | (refine W.condA (ht := fun hb => ?_) (hf := fun hb => ?_) <;> (try simp at hb) <;> (try (exfalso; omega))))
  all_goals exact FinM.ret ResM.auto
end
end Go.Proofs.Ytndfnihglpconaa
end
section
set_option linter.unusedVariables false
set_option linter.unusedSimpArgs false
set_option maxHeartbeats 8000000
namespace Go.Proofs.Ytndfnihglpconaa
open Lf Go
attribute [local irreducible] PureOp EffOp Ev RG W Then InBlock Lf.Fin nth App InitE Pick SubE EvL EvD EvP EvR ResL Lf.Lex SubR SubBR FinO FinM ResM ResD FinS val pw digs trimL
section
attribute [local irreducible] sgn mag gcdZ quoZ remZ fullZ fullE
theorem qbelow_ok (n : Nat) : ∀ p q r s : Int, okZ p → okZ q → okZ r → okZ s → 0 < q → 0 < s → (q + s).toNat ≤ n → ACalls Try.prog 41 [zB p, zB q, zB r, zB s] (.pv (cI (cmpI (p * s) (r * q)))) := by
  induction n with
  | zero => intro p q r s _ _ _ _ hq hs hn; exfalso; omega
  | succ n ih =>
    intro p q r s op oq or' os hq hs hn
    have d1 := rdivZ_ok p q op oq (by omega)
    have d2 := rdivZ_ok r s or' os (by omega)
    have k1 := rcmpZ_ok (quoZ p q) (quoZ r s) (okZ_quo op (by omega)) (okZ_quo or' (by omega))
    have hu := (rem_rng (x := p) (y := q) (by omega)).1 hq
    have hv := (rem_rng (x := r) (y := s) (by omega)).1 hs
    have ou := okZ_rem (x := p) oq (by omega)
    have ov := okZ_rem (x := r) os (by omega)
    have cu := sgn_cases (remZ p q)
    have cv := sgn_cases (remZ r s)
    have cc := cmp_cases (quoZ p q) (quoZ r s)
    by_cases h1 : quoZ p q = quoZ r s
    · have e1 := cmp_same h1
      have kc : cmpI (quoZ p q) (quoZ r s) = 0 := by omega
      rw [kc] at k1
      by_cases h2 : remZ p q = 0 ∨ remZ r s = 0
      · have e2 := cmp_end hq hs hu.1 hv.1 h2
        rw [e1, e2]
        have hbad : (¬ sgn (remZ p q) = 0 ∧ ¬ sgn (remZ r s) = 0) → False := fun h => by omega
        generalize quoZ p q = x at *
        generalize remZ p q = u at *
        generalize quoZ r s = y at *
        generalize remZ r s = v at *
        refine ACalls.of_W (qs := [cI (sgn u - sgn v)]) [8] 54 Try.func41 (by kernel_rfl) rfl rfl rfl fun G => ?_
        refine W.initA (hw := ?_)
        repeat' (first | ((first | apply U_ | (apply Ug_; exact rfl; exact rfl) | (apply Ugq_; exact rfl; exact rfl)); (first | exact QX.B TYok | exact QX.Ext TYok | exact QCd (d1) | exact QCd (d2) | exact QCd (k1)); exact rfl) | refine SX.Alloc TYok (h := ?_) | refine SX.Store TYok (h := ?_) | refine SX.Box TYok (h := ?_) | refine SC ?_ | (apply S_isnil TYok; exact rfl; exact rfl; exact rfl; exact Ev.auto; intro bn hnil) | refine SG ?_ | (refine W.condA (ht := fun hb => ?_) (hf := fun hb => ?_) <;> (try simp at hb) <;> (try (exfalso; first | exact hbad hb | omega))))
        all_goals exact Fin.ret ResL.auto
      · have i1 := ih s (remZ r s) q (remZ p q) os ov oq ou (by omega) (by omega) (by omega)
        rw [e1, Int.mul_comm (remZ p q), Int.mul_comm (remZ r s)]
        have hbad : (sgn (remZ p q) = 0 ∨ sgn (remZ r s) = 0) → False := fun h => by omega
        generalize cmpI (s * remZ p q) (q * remZ r s) = c at *
        generalize quoZ p q = x at *
        generalize remZ p q = u at *
        generalize quoZ r s = y at *
        generalize remZ r s = v at *
        refine ACalls.of_W (qs := [cI c]) [8] 54 Try.func41 (by kernel_rfl) rfl rfl rfl fun G => ?_
        refine W.initA (hw := ?_)
        repeat' (first | ((first | apply U_ | (apply Ug_; exact rfl; exact rfl) | (apply Ugq_; exact rfl; exact rfl)); (first | exact QX.B TYok | exact QX.Ext TYok | exact QCd (d1) | exact QCd (d2) | exact QCd (k1) | exact QCd (i1)); exact rfl) | refine SX.Alloc TYok (h := ?_) | refine SX.Store TYok (h := ?_) | refine SX.Box TYok (h := ?_) | refine SC ?_ | (apply S_isnil TYok; exact rfl; exact rfl; exact rfl; exact Ev.auto; intro bn hnil) | refine SG ?_ | (refine W.condA (ht := fun hb => ?_) (hf := fun hb => ?_) <;> (try simp at hb) <;> (try (exfalso; first | exact hbad hb | omega))))
        all_goals exact Fin.ret ResL.auto
    · rw [cmp_quo hq hs h1]
      have hc : ¬ cmpI (quoZ p q) (quoZ r s) = 0 := by omega
      generalize cmpI (quoZ p q) (quoZ r s) = c at *
      generalize quoZ p q = x at *
      generalize remZ p q = u at *
      generalize quoZ r s = y at *
      generalize remZ r s = v at *
      refine ACalls.of_W (qs := [cI c]) [8] 54 Try.func41 (by kernel_rfl) rfl rfl rfl fun G => ?_
      refine W.initA (hw := ?_)
      repeat' (first | ((first | apply U_ | (apply Ug_; exact rfl; exact rfl) | (apply Ugq_; exact rfl; exact rfl)); (first | exact QX.B TYok | exact QX.Ext TYok | exact QCd (d1) | exact QCd (d2) | exact QCd (k1)); exact rfl) | refine SX.Alloc TYok (h := ?_) | refine SX.Store TYok (h := ?_) | refine SX.Box TYok (h := ?_) | refine SC ?_ | (apply S_isnil TYok; exact rfl; exact rfl; exact rfl; exact Ev.auto; intro bn hnil) | refine SG ?_ | (refine W.condA (ht := fun hb => ?_) (hf := fun hb => ?_) <;> (try simp at hb) <;> (try (exfalso; omega))))
      all_goals exact Fin.ret ResL.auto
theorem qcmp_ok (a b : Rat) (ha : okF a) (hb : okF b) : ACalls Try.prog 21 [zF a, zF b] (.pv (cI (cmpR a b))) := by
  have r1 := qright_yes a ha
  have r2 := qright_yes b hb
  have b1 := qbelow_ok _ a.num a.den b.num b.den ha.1 ha.2 hb.1 hb.2 (den_pos a) (den_pos b) (Nat.le_refl _)
  unfold cmpR
  generalize cmpI (a.num * b.den) (b.num * a.den) = c at *
  refine ACalls.of_W (qs := [cI c]) [4] 22 Try.func21 (by kernel_rfl) rfl rfl rfl fun G => ?_
  refine W.initA (hw := ?_)
  repeat' (first | ((first | apply U_ | (apply Ug_; exact rfl; exact rfl) | (apply Ugq_; exact rfl; exact rfl)); (first | exact QX.B TYok | exact QCd (r1) | exact QCd (r2) | exact QCd (b1)); exact rfl) | refine SX.Box TYok (h := ?_) | refine SC ?_ | refine SG ?_ | (refine W.condA (ht := fun hb => ?_) (hf := fun hb => ?_) <;> (try simp at hb) <;> (try (exfalso; omega))))
  all_goals exact Fin.ret ResL.auto
end
section
attribute [local irreducible] sgn mag gcdZ quoZ remZ fullZ fullE
end
section
variable (s s' t t' : Int) (l l' m m' : List Int) (hl : l.length ≤ 9223372036854775807) (hl' : l'.length ≤ 9223372036854775807) (hm : m.length ≤ 9223372036854775807) (hm' : m'.length ≤ 9223372036854775807) (h : ¬ (rightFB s l s' l' = true ∧ rightFB t m t' m' = true))
include hl hl' hm hm' h
theorem fcmp_arg : ACalls Try.prog 26 [fB s l s' l', fB t m t' m'] (.pv (cI 0)) := by
  have h1 := fright_ok s l s' l' hl hl'
  have h2 := fright_ok t m t' m' hm hm'
  have hbad : (rightFB s l s' l' = true ∧ rightFB t m t' m' = true) → False := h
  generalize rightFB s l s' l' = b1 at *
  generalize rightFB t m t' m' = b2 at *
  refine ACalls.of_W (qs := [cI 0]) [4] 78 Try.func26 (by kernel_rfl) rfl rfl rfl fun G => ?_
  refine W.initA (hw := ?_)
  repeat' (first | ((first | apply U_ | (apply Ug_; exact rfl; exact rfl) | (apply Ugq_; exact rfl; exact rfl)); (first | exact QX.B TYok | exact QX.Ext TYok | exact QCd (h1) | exact QCd (h2)); exact rfl) | refine SX.Alloc TYok (h := ?_) | refine SX.Store TYok (h := ?_) | refine SX.Box TYok (h := ?_) | refine SC ?_ | (apply S_isnil TYok; exact rfl; exact rfl; exact rfl; exact Ev.auto; intro bn hnil) | refine SG ?_ | (refine W.drawA (id := 13) (L := [false, false, false, false, false, false, false, false]) mixed rfl ?_) | exact RAll.nil | (refine RAll.cons rfl ?_ ?_) | (refine RA.step (L := [false, false, false, false, false, false, false, false]) (i := 0) (is := [1, 2, 3]) (by kernel_rfl) ?_) | (refine RA.step (L := [false, false, false, true, false, false, false, false]) (i := 0) (is := [1, 2]) (by kernel_rfl) ?_) | (refine RA.step (L := [false, false, true, true, false, false, false, false]) (i := 0) (is := [1]) (by kernel_rfl) ?_) | (refine RA.step (L := [false, true, true, true, false, false, false, false]) (i := 0) (is := []) (by kernel_rfl) ?_) | (refine RA.step (L := [true, true, true, true, false, false, false, false]) (i := 4) (is := []) (by kernel_rfl) ?_) | (refine RA.step (L := [true, true, true, true, true, false, false, false]) (i := 5) (is := []) (by kernel_rfl) ?_) | (refine RA.step (L := [true, true, true, true, true, true, false, false]) (i := 6) (is := []) (by kernel_rfl) ?_) | (refine RA.step (L := [true, true, true, true, true, true, true, false]) (i := 7) (is := []) (by kernel_rfl) ?_) | (refine RA.done (L := [true, true, true, true, true, true, true, true]) (by kernel_rfl) ?_) | (refine RA.step (L := [true, false, true, true, false, false, false, false]) (i := 1) (is := [4]) (by kernel_rfl) ?_) | (refine RA.step (L := [true, false, true, true, true, false, false, false]) (i := 1) (is := []) (by kernel_rfl) ?_) | (refine RA.step (L := [false, true, false, true, false, false, false, false]) (i := 0) (is := [2]) (by kernel_rfl) ?_) | (refine RA.step (L := [true, true, false, true, false, false, false, false]) (i := 2) (is := [4]) (by kernel_rfl) ?_) | (refine RA.step (L := [true, true, false, true, true, false, false, false]) (i := 2) (is := [5]) (by kernel_rfl) ?_) | (refine RA.step (L := [true, true, false, true, true, true, false, false]) (i := 2) (is := []) (by kernel_rfl) ?_) | (refine RA.step (L := [true, false, false, true, false, false, false, false]) (i := 1) (is := [2, 4]) (by kernel_rfl) ?_) | (refine RA.step (L := [true, false, false, true, true, false, false, false]) (i := 1) (is := [2]) (by kernel_rfl) ?_) | (refine RA.step (L := [false, false, true, false, false, false, false, false]) (i := 0) (is := [1, 3]) (by kernel_rfl) ?_) | (refine RA.step (L := [false, true, true, false, false, false, false, false]) (i := 0) (is := [3]) (by kernel_rfl) ?_) | (refine RA.step (L := [true, true, true, false, false, false, false, false]) (i := 3) (is := [4]) (by kernel_rfl) ?_) | (refine RA.step (L := [true, true, true, false, true, false, false, false]) (i := 3) (is := [5]) (by kernel_rfl) ?_) | (refine RA.step (L := [true, true, true, false, true, true, false, false]) (i := 3) (is := [6]) (by kernel_rfl) ?_) | (refine RA.step (L := [true, true, true, false, true, true, true, false]) (i := 3) (is := []) (by kernel_rfl) ?_) | (refine RA.step (L := [true, false, true, false, false, false, false, false]) (i := 1) (is := [3, 4]) (by kernel_rfl) ?_) | (refine RA.step (L := [true, false, true, false, true, false, false, false]) (i := 1) (is := [3]) (by kernel_rfl) ?_) | (refine RA.step (L := [false, true, false, false, false, false, false, false]) (i := 0) (is := [2, 3]) (by kernel_rfl) ?_) | (refine RA.step (L := [true, true, false, false, false, false, false, false]) (i := 2) (is := [3, 4]) (by kernel_rfl) ?_) | (refine RA.step (L := [true, true, false, false, true, false, false, false]) (i := 2) (is := [3, 5]) (by kernel_rfl) ?_) | (refine RA.step (L := [true, true, false, false, true, true, false, false]) (i := 2) (is := [3]) (by kernel_rfl) ?_) | (refine RA.step (L := [true, false, false, false, false, false, false, false]) (i := 1) (is := [2, 3, 4]) (by kernel_rfl) ?_) | (refine RA.step (L := [true, false, false, false, true, false, false, false]) (i := 1) (is := [2, 3]) (by kernel_rfl) ?_) | (refine W.condA (ht := fun hb => ?_) (hf := fun hb => ?_) <;> (try simp at hb) <;> (try (exfalso; first | exact hbad hb | omega))))
  all_goals exact Fin.ret ResL.auto
end
end Go.Proofs.Ytndfnihglpconaa
end
section
namespace Go.Proofs.Ytndfnihglpconaa.RankLaw
structure Cl where
  frm : Int
  to : Int
  rank : Int
  amt : Int
/-- the sum of the amounts of lesser ranks, and of one rank -/
def less : List Cl → Int → Int
  | [], _ => 0
  | c :: l, k => (if c.rank < k then c.amt else 0) + less l k
def same : List Cl → Int → Int
  | [], _ => 0
  | c :: l, k => (if c.rank = k then c.amt else 0) + same l k
def total : List Cl → Int
  | [] => 0
  | c :: l => c.amt + total l
def okC (c : Cl) : Prop := 0 ≤ c.rank ∧ c.rank ≤ 9 ∧ 0 ≤ c.amt
/-- what a claim gets: A the amounts of lesser ranks, S those of its rank -/
def pay (r : Rat) (A S c : Int) : Rat := if r ≤ A then 0 else if ((A + S : Int) : Rat) ≤ r then c else c * (r - A) / S
theorem same_nn {l : List Cl} (h : ∀ c ∈ l, okC c) (k : Int) : 0 ≤ same l k := by
  induction l with
  | nil => exact Int.le_refl _
  | cons c l ih =>
    have h1 := ih fun x hx => h x (List.mem_cons_of_mem _ hx)
    have h2 := (h c (List.mem_cons_self ..)).2.2
    rw [same]; split <;> omega
theorem less_succ (l : List Cl) (k : Int) : less l (k + 1) = less l k + same l k := by
  induction l with
  | nil => rfl
  | cons c l ih =>
    rw [less, less, same, ih]
    by_cases h1 : c.rank < k
    · rw [if_pos (by omega), if_pos h1, if_neg (by omega)]; omega
    · by_cases h2 : c.rank = k
      · rw [if_pos (by omega), if_neg h1, if_pos h2]; omega
      · rw [if_neg (by omega), if_neg h1, if_neg h2]; omega
theorem less_zero {l : List Cl} (h : ∀ c ∈ l, okC c) : less l 0 = 0 := by
  induction l with
  | nil => rfl
  | cons c l ih =>
    have h2 := (h c (List.mem_cons_self ..)).1
    rw [less, if_neg (by omega), ih fun x hx => h x (List.mem_cons_of_mem _ hx)]; rfl
theorem same_ge {l : List Cl} (h : ∀ c ∈ l, okC c) {c : Cl} (hc : c ∈ l) : c.amt ≤ same l c.rank := by
  induction l with
  | nil => cases hc
  | cons x l ih =>
    have hn := same_nn (l := l) (fun y hy => h y (List.mem_cons_of_mem _ hy)) c.rank
    rw [same]
    rcases List.mem_cons.1 hc with rfl | hm
    · rw [if_pos rfl]; omega
    · have h1 := ih (fun y hy => h y (List.mem_cons_of_mem _ hy)) hm
      have h2 := (h x (List.mem_cons_self ..)).2.2
      split <;> omega
def payL (r : Rat) (l : List Cl) : List Rat := l.map fun c => pay r (less l c.rank) (same l c.rank) c.amt
/-- what is left for a rank -/
def rest (r : Rat) (l : List Cl) (k : Int) : Rat := if r ≤ less l k then 0 else r - less l k
theorem rest_zero {r : Rat} (h0 : 0 ≤ r) {l : List Cl} (h : ∀ c ∈ l, okC c) : rest r l 0 = r := by
  unfold rest
  rw [less_zero h]
  split <;> grind
theorem rest_nn (r : Rat) (l : List Cl) (k : Int) : 0 ≤ rest r l k := by
  unfold rest
  split <;> grind
theorem rest_next {r : Rat} {l : List Cl} (h : ∀ c ∈ l, okC c) (k : Int) : rest r l (k + 1) = if (same l k : Rat) ≤ rest r l k then rest r l k - same l k else 0 := by
  have hs : (0 : Rat) ≤ same l k := by exact_mod_cast same_nn h k
  unfold rest
  rw [less_succ, Rat.intCast_add]
  repeat' split
  all_goals grind
theorem rest_pay {r : Rat} {l : List Cl} (h : ∀ c ∈ l, okC c) {c : Cl} (hc : c ∈ l) :
    (if (same l c.rank : Rat) ≤ rest r l c.rank then (c.amt : Rat) else c.amt * rest r l c.rank / same l c.rank) = pay r (less l c.rank) (same l c.rank) c.amt := by
  have h1 := same_ge h hc
  have h2 := (h c hc).2.2
  have h1' : (c.amt : Rat) ≤ same l c.rank := by exact_mod_cast h1
  have h2' : (0 : Rat) ≤ c.amt := by exact_mod_cast h2
  unfold rest pay
  rw [Rat.intCast_add]
  by_cases k1 : r ≤ less l c.rank
  · rw [if_pos k1, if_pos k1]
    split
    · grind
    · rw [Rat.mul_zero, Rat.div_def, Rat.zero_mul]
  · rw [if_neg k1, if_neg k1]
    by_cases k2 : (less l c.rank : Rat) + same l c.rank ≤ r
    · rw [if_pos k2, if_pos (by grind)]
    · rw [if_neg k2, if_neg (by grind)]
/-- the reference's way: what is left after the lesser ranks, for each claim by itself -/
theorem ref_pay (r : Rat) (A S c : Int) : (if r - A ≤ 0 then (0 : Rat) else if (S : Rat) ≤ r - A then (c : Rat) else c * (r - A) / S) = pay r A S c := by
  unfold pay
  rw [Rat.intCast_add]
  by_cases k1 : r ≤ A
  · rw [if_pos k1, if_pos (by grind)]
  · rw [if_neg k1, if_neg (by grind)]
    by_cases k2 : (A : Rat) + S ≤ r
    · rw [if_pos k2, if_pos (by grind)]
    · rw [if_neg k2, if_neg (by grind)]
theorem less_snoc (l : List Cl) (c : Cl) (k : Int) : less (l ++ [c]) k = less l k + (if c.rank < k then c.amt else 0) := by
  induction l with
  | nil => simp [less]
  | cons x l ih => rw [List.cons_append, less, less, ih]; omega
theorem same_snoc (l : List Cl) (c : Cl) (k : Int) : same (l ++ [c]) k = same l k + (if c.rank = k then c.amt else 0) := by
  induction l with
  | nil => simp [same]
  | cons x l ih => rw [List.cons_append, same, same, ih]; omega
theorem sums_le {l : List Cl} {M : Int} (hM : 0 ≤ M) (h : ∀ c ∈ l, 0 ≤ c.amt ∧ c.amt ≤ M) (k : Int) : (0 ≤ less l k ∧ less l k ≤ M * l.length) ∧ (0 ≤ same l k ∧ same l k ≤ M * l.length) ∧ (0 ≤ total l ∧ total l ≤ M * l.length) := by
  induction l with
  | nil => simp [less, same, total]
  | cons c l ih =>
    have h1 := ih fun x hx => h x (List.mem_cons_of_mem _ hx)
    have h2 := h c (List.mem_cons_self ..)
    rw [less, same, total, List.length_cons, show ((l.length + 1 : Nat) : Int) = l.length + 1 by omega, Int.mul_add, Int.mul_one]
    refine ⟨?_, ?_, ?_⟩
    · split <;> omega
    · split <;> omega
    · omega
end Go.Proofs.Ytndfnihglpconaa.RankLaw
end
section
set_option linter.unusedVariables false
set_option linter.unusedSimpArgs false
set_option maxHeartbeats 8000000
namespace Go.Proofs.Ytndfnihglpconaa
open Lf Go
attribute [local irreducible] PureOp EffOp Ev RG W Then InBlock Lf.Fin nth App InitE Pick SubE EvL EvD EvP EvR ResL Lf.Lex SubR SubBR FinO FinM ResM ResD FinS val pw digs trimL
section
open RankLaw
instance : Inhabited Cl := ⟨⟨0, 0, 0, 0⟩⟩
abbrev encC (c : Cl) : List Cell := [.int .i64 c.frm, .int .i64 c.to, .int .i64 c.rank, .int .i64 c.amt]
abbrev slC (l : List Cl) : PV := .one (.sl (l.map encC))
theorem within_ok (n a b : Int) : ACalls Try.prog 51 [cI n, cI a, cI b] (.pv (cB (decide (a ≤ n) && decide (n ≤ b)))) := by
  refine ACalls.of_W (qs := [cB (decide (a ≤ n) && decide (n ≤ b))]) [6] 15 Try.func51 (by kernel_rfl) rfl rfl rfl fun G => ?_
  refine W.initA (hw := ?_)
  repeat' (first | ((first | apply U_ | (apply Ug_; exact rfl; exact rfl) | (apply Ugq_; exact rfl; exact rfl)); (first | exact QX.B TYok); exact rfl) | refine SC ?_ | refine SG ?_ | (refine W.condA (ht := fun hb => ?_) (hf := fun hb => ?_) <;> (try simp at hb) <;> (try (exfalso; omega))))
  all_goals exact Fin.ret ResL.auto
theorem divInt_one (n : Int) : Rat.divInt n 1 = (n : Rat) := by
  obtain ⟨h1, h2⟩ := rat_of (x := n) (y := 1) (by decide) (by unfold gcdZ; simp)
  refine Rat.ext ?_ ?_
  · rw [h1]; rfl
  · have : ((n : Rat).den : Int) = 1 := rfl
    omega
theorem okF_int {n : Int} (h : i64B n) : okF (n : Rat) := by
  rw [← divInt_one]
  exact okF_of (i64_ok h) (i64_ok (by unfold i64B; omega)) (by omega)
theorem whole_ok (n : Int) (h : i64B n) : ACalls Try.prog 27 [cI n] (.pv (zF (n : Rat))) := by
  have n1 := Of_ok n 1 h (by unfold i64B; omega) (by omega)
  rw [divInt_one] at n1
  generalize (n : Rat) = r at *
  refine ACalls.of_M TYok (qs := [zF r]) [.cell 2 26] 11 Try.func27 (by kernel_rfl) rfl rfl rfl fun G => ?_
  refine W.initA (hw := ?_)
  repeat' (first | ((first | apply U_); (first | exact QX.B TYok | exact QX.Ext TYok | exact QCd (n1)); exact rfl) | refine SX.Alloc TYok (h := ?_) | refine SX.Store TYok (h := ?_) | refine SC ?_ | (refine W.condA (ht := fun hb => ?_) (hf := fun hb => ?_) <;> (try simp at hb) <;> (try (exfalso; omega))))
  all_goals exact FinM.ret ResM.auto
theorem qOf_ok (n m : Int) (h : i64B n) (hm : i64B m) (h0 : m ≠ 0) : ACalls Try.prog 34 [cI n, cI m] (.pv (zF (Rat.divInt n m))) := by
  have n1 := qof_ok n m h hm h0
  generalize Rat.divInt n m = r at *
  refine ACalls.of_M TYok (qs := [zF r]) [.cell 4 26] 14 Try.func34 (by kernel_rfl) rfl rfl rfl fun G => ?_
  refine W.initA (hw := ?_)
  repeat' (first | ((first | apply U_); (first | exact QX.B TYok | exact QX.Ext TYok | exact QCd (n1)); exact rfl) | refine SX.Alloc TYok (h := ?_) | refine SX.Store TYok (h := ?_) | refine SC ?_ | (refine W.condA (ht := fun hb => ?_) (hf := fun hb => ?_) <;> (try simp at hb) <;> (try (exfalso; omega))))
  all_goals exact FinM.ret ResM.auto
theorem qwhole_ok (n : Int) (h : i64B n) : ACalls Try.prog 34 [cI n, cI 1] (.pv (zF (n : Rat))) := by
  rw [← divInt_one]
  exact qOf_ok n 1 h (by unfold i64B; omega) (by omega)
/-- one claim is right, for an issuer -/
def okB (f : Int) (c : Cl) : Bool := (decide (0 ≤ c.frm) && decide (c.frm ≤ 59)) && (decide (-1 ≤ c.to) && decide (c.to ≤ 59)) && (decide (0 ≤ c.rank) && decide (c.rank ≤ 9)) && (decide (0 ≤ c.amt) && decide (c.amt ≤ 1000000000000000)) && decide (c.frm = f)
def rightC (l : List Cl) : Bool := l.all (okB (nth l 0).frm) && decide ((l.length : Int) ≤ 2000)
theorem okB_iff (f : Int) (c : Cl) : okB f c = true ↔ (0 ≤ c.frm ∧ c.frm ≤ 59) ∧ (-1 ≤ c.to ∧ c.to ≤ 59) ∧ (0 ≤ c.rank ∧ c.rank ≤ 9) ∧ (0 ≤ c.amt ∧ c.amt ≤ 1000000000000000) ∧ c.frm = f := by
  unfold okB
  simp only [Bool.and_eq_true, decide_eq_true_iff, and_assoc]
theorem all_drop {p : Cl → Bool} {l : List Cl} {k : Nat} (h : k < l.length) : (l.drop k).all p = (p (nth l k) && (l.drop (k + 1)).all p) := by
  rw [drop_nth h, List.all_cons]
theorem pright_ok (l : List Cl) (hl : l.length ≤ 9223372036854775807) : ACalls Try.prog 28 [slC l] (.pv (cB (rightC l))) := by
  have hw := within_ok
  refine ACalls.of_W (qs := [cB (rightC l)]) [2] 46 Try.func28 (by kernel_rfl) rfl rfl rfl fun G => ?_
  refine W.initA (hw := ?_)
  repeat' (first | ((first | apply U_ | (apply Ug_; exact rfl; exact rfl) | (apply Ugq_; exact rfl; exact rfl) | apply Lex.u | (apply Lex.g; exact rfl; exact rfl) | (apply Lex.gq; exact rfl; exact rfl)); (first | exact QX.B TYok | exact QX.Len TYok | exact QX.Idx TYok); exact rfl) | refine SX.Alloc TYok (h := ?_) | refine SX.Store TYok (h := ?_) | refine SC ?_ | refine SG ?_ | (apply W.draw2 (id := 4) [0, 1, 3, 7, 15, 31, 63, 127, 255, 511, 1023, 2047, 4095, 8191, 16383, 32767, 65535, 131071, 262143, 524287, 1048575, 2097151, 4194303, 8388607, 16777215, 8388607, 41943039, 109051903, 243269631, 536870911, 1073741823] [[4], [11], [12], [13], [14], [4, 15], [16, 15], [17, 15], [18, 15], [15, 19], [20], [4, 21], [22, 21], [23, 21], [24, 21], [21, 25], [26], [4, 27], [28, 27], [29, 27], [30, 27], [27, 31], [32], [4, 33], [34, 33], [0, 33], [36, 33], [37, 33], [38, 33], [35, 39, 33], [33, 40]] 31 [(11, 16), (12, 2048), (13, 4096), (14, 8192), (15, 16384), (16, 32784), (17, 98304), (18, 163840), (19, 294912), (20, 557056), (21, 1048576), (22, 2097168), (23, 6291456), (24, 10485760), (25, 18874368), (26, 35651584), (27, 67108864), (28, 134217744), (29, 402653184), (30, 671088640), (31, 1207959552), (32, 2281701376), (33, 4294967296), (34, 8589934608), (35, 25769803776), (36, 8589934593), (37, 77309411328), (38, 146028888064), (39, 283467841536), (40, 592705486848), (41, 1108101562368)] mixed (by kernel_rfl) rfl rfl) | (refine W.condA (ht := fun hb => ?_) (hf := fun hb => ?_) <;> (try simp at hb) <;> (try (exfalso; omega))))
  apply W.loopP (σ := Nat) 46 [0, 5, 6] (fun k => k ≤ l.length ∧ l.all (okB (nth l 0).frm) = (l.drop k).all (okB (nth l 0).frm)) (fun k => [(7, vI k)]) (fun _ => []) (fun k => l.length - k) (0)
  case hp => repeat (first | exact Pick.nil | apply Pick.cons rfl)
  case h0 =>
    refine ⟨by simp, ?_⟩
    exact Le.auto
  case round =>
    rintro k ⟨g1, g2⟩
    apply W.norm (by repeat (first | exact App.nil | apply App.cons))
    by_cases hk : k < l.length
    · rw [all_drop hk] at g2
      have hi := okB_iff (nth l 0).frm (nth l k)
      cases hb2 : okB (nth l 0).frm (nth l k) with
      | false =>
        have e : rightC l = false := by unfold rightC; rw [g2, hb2]; rfl
        rw [e]
        rw [hb2] at hi
        have hn : ¬ ((0 ≤ (nth l k).frm ∧ (nth l k).frm ≤ 59) ∧ (-1 ≤ (nth l k).to ∧ (nth l k).to ≤ 59) ∧ (0 ≤ (nth l k).rank ∧ (nth l k).rank ≤ 9) ∧ (0 ≤ (nth l k).amt ∧ (nth l k).amt ≤ 1000000000000000) ∧ (nth l k).frm = (nth l 0).frm) := fun h => by have := hi.2 h; cases this
        repeat' (first | ((first | apply U_ | (apply Ug_; exact rfl; exact rfl) | (apply Ugq_; exact rfl; exact rfl) | apply Lex.u | (apply Lex.g; exact rfl; exact rfl) | (apply Lex.gq; exact rfl; exact rfl)); (first | exact QX.B TYok | exact QX.Len TYok | exact QX.Idx TYok | exact QCd (hw _ _ _)); exact rfl) | refine SX.Alloc TYok (h := ?_) | refine SX.Store TYok (h := ?_) | refine SC ?_ | refine SG ?_ | (apply W.draw2 (id := 4) [0, 1, 3, 7, 15, 31, 63, 127, 255, 511, 1023, 2047, 4095, 8191, 16383, 32767, 65535, 131071, 262143, 524287, 1048575, 2097151, 4194303, 8388607, 16777215, 8388607, 41943039, 109051903, 243269631, 536870911, 1073741823] [[4], [11], [12], [13], [14], [4, 15], [16, 15], [17, 15], [18, 15], [15, 19], [20], [4, 21], [22, 21], [23, 21], [24, 21], [21, 25], [26], [4, 27], [28, 27], [29, 27], [30, 27], [27, 31], [32], [4, 33], [34, 33], [0, 33], [36, 33], [37, 33], [38, 33], [35, 39, 33], [33, 40]] 31 [(11, 16), (12, 2048), (13, 4096), (14, 8192), (15, 16384), (16, 32784), (17, 98304), (18, 163840), (19, 294912), (20, 557056), (21, 1048576), (22, 2097168), (23, 6291456), (24, 10485760), (25, 18874368), (26, 35651584), (27, 67108864), (28, 134217744), (29, 402653184), (30, 671088640), (31, 1207959552), (32, 2281701376), (33, 4294967296), (34, 8589934608), (35, 25769803776), (36, 8589934593), (37, 77309411328), (38, 146028888064), (39, 283467841536), (40, 592705486848), (41, 1108101562368)] mixed (by kernel_rfl) rfl rfl) | (refine W.condA (ht := fun hb => ?_) (hf := fun hb => ?_) <;> (try simp at hb) <;> (try (exfalso; omega))))
        all_goals first
          | exact Fin.ret ResL.auto
          | (exfalso; omega)
          | trace_state
      | true =>
        rw [hb2, Bool.true_and] at g2
        rw [hb2] at hi
        obtain ⟨i1, i2, i3, i4, i5⟩ := hi.1 rfl
        repeat' (first | ((first | apply U_ | (apply Ug_; exact rfl; exact rfl) | (apply Ugq_; exact rfl; exact rfl) | apply Lex.u | (apply Lex.g; exact rfl; exact rfl) | (apply Lex.gq; exact rfl; exact rfl)); (first | exact QX.B TYok | exact QX.Len TYok | exact QX.Idx TYok | exact QCd (hw _ _ _)); exact rfl) | refine SX.Alloc TYok (h := ?_) | refine SX.Store TYok (h := ?_) | refine SC ?_ | refine SG ?_ | (apply W.draw2 (id := 4) [0, 1, 3, 7, 15, 31, 63, 127, 255, 511, 1023, 2047, 4095, 8191, 16383, 32767, 65535, 131071, 262143, 524287, 1048575, 2097151, 4194303, 8388607, 16777215, 8388607, 41943039, 109051903, 243269631, 536870911, 1073741823] [[4], [11], [12], [13], [14], [4, 15], [16, 15], [17, 15], [18, 15], [15, 19], [20], [4, 21], [22, 21], [23, 21], [24, 21], [21, 25], [26], [4, 27], [28, 27], [29, 27], [30, 27], [27, 31], [32], [4, 33], [34, 33], [0, 33], [36, 33], [37, 33], [38, 33], [35, 39, 33], [33, 40]] 31 [(11, 16), (12, 2048), (13, 4096), (14, 8192), (15, 16384), (16, 32784), (17, 98304), (18, 163840), (19, 294912), (20, 557056), (21, 1048576), (22, 2097168), (23, 6291456), (24, 10485760), (25, 18874368), (26, 35651584), (27, 67108864), (28, 134217744), (29, 402653184), (30, 671088640), (31, 1207959552), (32, 2281701376), (33, 4294967296), (34, 8589934608), (35, 25769803776), (36, 8589934593), (37, 77309411328), (38, 146028888064), (39, 283467841536), (40, 592705486848), (41, 1108101562368)] mixed (by kernel_rfl) rfl rfl) | (refine W.condA (ht := fun hb => ?_) (hf := fun hb => ?_) <;> (try simp at hb) <;> (try (exfalso; omega))))
        all_goals first
          | (refine ⟨k + 1, ⟨by omega, g2⟩, ?_, by omega⟩; exact Le.auto)
          | trace_state
    · obtain rfl : k = l.length := by omega
      rw [List.drop_length] at g2
      have e : rightC l = decide ((l.length : Int) ≤ 2000) := by unfold rightC; rw [g2]; rfl
      rw [e]
      repeat' (first | ((first | apply U_ | (apply Ug_; exact rfl; exact rfl) | (apply Ugq_; exact rfl; exact rfl) | apply Lex.u | (apply Lex.g; exact rfl; exact rfl) | (apply Lex.gq; exact rfl; exact rfl)); (first | exact QX.B TYok | exact QX.Len TYok | exact QX.Idx TYok); exact rfl) | refine SX.Alloc TYok (h := ?_) | refine SX.Store TYok (h := ?_) | refine SC ?_ | refine SG ?_ | (apply W.draw2 (id := 4) [0, 1, 3, 7, 15, 31, 63, 127, 255, 511, 1023, 2047, 4095, 8191, 16383, 32767, 65535, 131071, 262143, 524287, 1048575, 2097151, 4194303, 8388607, 16777215, 8388607, 41943039, 109051903, 243269631, 536870911, 1073741823] [[4], [11], [12], [13], [14], [4, 15], [16, 15], [17, 15], [18, 15], [15, 19], [20], [4, 21], [22, 21], [23, 21], [24, 21], [21, 25], [26], [4, 27], [28, 27], [29, 27], [30, 27], [27, 31], [32], [4, 33], [34, 33], [0, 33], [36, 33], [37, 33], [38, 33], [35, 39, 33], [33, 40]] 31 [(11, 16), (12, 2048), (13, 4096), (14, 8192), (15, 16384), (16, 32784), (17, 98304), (18, 163840), (19, 294912), (20, 557056), (21, 1048576), (22, 2097168), (23, 6291456), (24, 10485760), (25, 18874368), (26, 35651584), (27, 67108864), (28, 134217744), (29, 402653184), (30, 671088640), (31, 1207959552), (32, 2281701376), (33, 4294967296), (34, 8589934608), (35, 25769803776), (36, 8589934593), (37, 77309411328), (38, 146028888064), (39, 283467841536), (40, 592705486848), (41, 1108101562368)] mixed (by kernel_rfl) rfl rfl) | (refine W.condA (ht := fun hb => ?_) (hf := fun hb => ?_) <;> (try simp at hb) <;> (try (exfalso; omega))))
      exact Fin.ret ResL.auto
theorem rrightC_ok (l : List Cl) (hl : l.length ≤ 9223372036854775807) : ACalls Try.prog 14 [slC l] (.pv (cB (rightC l))) := by
  by_cases h2 : (l.length : Int) ≤ 2000
  case neg =>
    have e : rightC l = false := by unfold rightC; rw [decide_eq_false h2, Bool.and_false]
    rw [e]
    refine ACalls.of_W (qs := [cB false]) [2] 63 Try.func14 (by kernel_rfl) rfl rfl rfl fun G => ?_
    refine W.initA (hw := ?_)
    repeat' (first | (exfalso; omega) | ((first | apply U_ | (apply Ug_; exact rfl; exact rfl) | (apply Ugq_; exact rfl; exact rfl) | apply Lex.u | (apply Lex.g; exact rfl; exact rfl) | (apply Lex.gq; exact rfl; exact rfl)); (first | exact QX.B TYok | exact QX.Len TYok | exact QX.Idx TYok); exact rfl) | refine SX.Alloc TYok (h := ?_) | refine SX.Store TYok (h := ?_) | refine SC ?_ | refine SG ?_ | (apply W.draw2 (id := 9) [0, 1, 0, 4, 12, 28, 63] [[4], [56], [0], [58], [59], [60], [57, 61]] 7 [(56, 16), (57, 72057594037927936), (58, 1), (59, 288230376151711744), (60, 576460752303423488), (61, 1152921504606846976), (62, 2449958197289549824)] mixed (by kernel_rfl) rfl rfl) | (refine W.condA (ht := fun hb => ?_) (hf := fun hb => ?_) <;> (try simp at hb) <;> (try (exfalso; omega))))
    all_goals exact Fin.ret ResL.auto
  have er : rightC l = l.all (okB (nth l 0).frm) := by unfold rightC; rw [decide_eq_true h2, Bool.and_true]
  rw [er]
  refine ACalls.of_W (qs := [cB (l.all (okB (nth l 0).frm))]) [2] 63 Try.func14 (by kernel_rfl) rfl rfl rfl fun G => ?_
  refine W.initA (hw := ?_)
  repeat' (first | (exfalso; omega) | ((first | apply U_ | (apply Ug_; exact rfl; exact rfl) | (apply Ugq_; exact rfl; exact rfl) | apply Lex.u | (apply Lex.g; exact rfl; exact rfl) | (apply Lex.gq; exact rfl; exact rfl)); (first | exact QX.B TYok | exact QX.Len TYok | exact QX.Idx TYok); exact rfl) | refine SX.Alloc TYok (h := ?_) | refine SX.Store TYok (h := ?_) | refine SC ?_ | refine SG ?_ | (apply W.draw2 (id := 9) [0, 1, 0, 4, 12, 28, 63] [[4], [56], [0], [58], [59], [60], [57, 61]] 7 [(56, 16), (57, 72057594037927936), (58, 1), (59, 288230376151711744), (60, 576460752303423488), (61, 1152921504606846976), (62, 2449958197289549824)] mixed (by kernel_rfl) rfl rfl) | (refine W.condA (ht := fun hb => ?_) (hf := fun hb => ?_) <;> (try simp at hb) <;> (try (exfalso; omega))))
  apply W.loopP (σ := Nat) 63 [0] (fun k => k ≤ l.length ∧ l.all (okB (nth l 0).frm) = (l.drop k).all (okB (nth l 0).frm)) (fun k => [(3, vI k)]) (fun _ => []) (fun k => l.length - k) (0)
  case hp => repeat (first | exact Pick.nil | apply Pick.cons rfl)
  case h0 =>
    refine ⟨by simp, ?_⟩
    exact Le.auto
  case round =>
    rintro k ⟨g1, g2⟩
    apply W.norm (by repeat (first | exact App.nil | apply App.cons))
    by_cases hk : k < l.length
    · rw [all_drop hk] at g2
      have hi := okB_iff (nth l 0).frm (nth l k)
      cases hb2 : okB (nth l 0).frm (nth l k) with
      | false =>
        rw [hb2] at hi g2
        have hn : ¬ ((0 ≤ (nth l k).frm ∧ (nth l k).frm ≤ 59) ∧ (-1 ≤ (nth l k).to ∧ (nth l k).to ≤ 59) ∧ (0 ≤ (nth l k).rank ∧ (nth l k).rank ≤ 9) ∧ (0 ≤ (nth l k).amt ∧ (nth l k).amt ≤ 1000000000000000) ∧ (nth l k).frm = (nth l 0).frm) := fun h => by have := hi.2 h; cases this
        rw [g2, Bool.false_and]
        repeat' (first | ((first | apply U_ | (apply Ug_; exact rfl; exact rfl) | (apply Ugq_; exact rfl; exact rfl) | apply Lex.u | (apply Lex.g; exact rfl; exact rfl) | (apply Lex.gq; exact rfl; exact rfl)); (first | exact QX.B TYok | exact QX.Len TYok | exact QX.Idx TYok); exact rfl) | refine SX.Alloc TYok (h := ?_) | refine SX.Store TYok (h := ?_) | refine SC ?_ | refine SG ?_ | (apply W.draw2 (id := 9) [0, 1, 0, 4, 12, 28, 63] [[4], [56], [0], [58], [59], [60], [57, 61]] 7 [(56, 16), (57, 72057594037927936), (58, 1), (59, 288230376151711744), (60, 576460752303423488), (61, 1152921504606846976), (62, 2449958197289549824)] mixed (by kernel_rfl) rfl rfl) | (refine W.condA (ht := fun hb => ?_) (hf := fun hb => ?_) <;> (try simp at hb) <;> (try (exfalso; omega))))
        all_goals first
          | exact Fin.ret ResL.auto
          | (exfalso; omega)
          | trace_state
      | true =>
        rw [hb2, Bool.true_and] at g2
        rw [hb2] at hi
        obtain ⟨i1, i2, i3, i4, i5⟩ := hi.1 rfl
        repeat' (first | ((first | apply U_ | (apply Ug_; exact rfl; exact rfl) | (apply Ugq_; exact rfl; exact rfl) | apply Lex.u | (apply Lex.g; exact rfl; exact rfl) | (apply Lex.gq; exact rfl; exact rfl)); (first | exact QX.B TYok | exact QX.Len TYok | exact QX.Idx TYok); exact rfl) | refine SX.Alloc TYok (h := ?_) | refine SX.Store TYok (h := ?_) | refine SC ?_ | refine SG ?_ | (apply W.draw2 (id := 9) [0, 1, 0, 4, 12, 28, 63] [[4], [56], [0], [58], [59], [60], [57, 61]] 7 [(56, 16), (57, 72057594037927936), (58, 1), (59, 288230376151711744), (60, 576460752303423488), (61, 1152921504606846976), (62, 2449958197289549824)] mixed (by kernel_rfl) rfl rfl) | (refine W.condA (ht := fun hb => ?_) (hf := fun hb => ?_) <;> (try simp at hb) <;> (try (exfalso; omega))))
        all_goals first
          | (refine ⟨k + 1, ⟨by omega, g2⟩, ?_, by omega⟩; exact Le.auto)
          | (exfalso; omega)
          | trace_state
    · obtain rfl : k = l.length := by omega
      rw [List.drop_length] at g2
      rw [g2]
      repeat' (first | ((first | apply U_ | (apply Ug_; exact rfl; exact rfl) | (apply Ugq_; exact rfl; exact rfl) | apply Lex.u | (apply Lex.g; exact rfl; exact rfl) | (apply Lex.gq; exact rfl; exact rfl)); (first | exact QX.B TYok | exact QX.Len TYok | exact QX.Idx TYok); exact rfl) | refine SX.Alloc TYok (h := ?_) | refine SX.Store TYok (h := ?_) | refine SC ?_ | refine SG ?_ | (apply W.draw2 (id := 9) [0, 1, 0, 4, 12, 28, 63] [[4], [56], [0], [58], [59], [60], [57, 61]] 7 [(56, 16), (57, 72057594037927936), (58, 1), (59, 288230376151711744), (60, 576460752303423488), (61, 1152921504606846976), (62, 2449958197289549824)] mixed (by kernel_rfl) rfl rfl) | (refine W.condA (ht := fun hb => ?_) (hf := fun hb => ?_) <;> (try simp at hb) <;> (try (exfalso; omega))))
      exact Fin.ret ResL.auto
end
end Go.Proofs.Ytndfnihglpconaa
end
section
set_option linter.unusedVariables false
set_option linter.unusedSimpArgs false
set_option maxHeartbeats 8000000
namespace Go.Proofs.Ytndfnihglpconaa
open Lf Go
attribute [local irreducible] PureOp EffOp Ev RG W Then InBlock Lf.Fin nth App InitE Pick SubE EvL EvD EvP EvR ResL Lf.Lex SubR SubBR FinO FinM ResM ResD FinS val pw digs trimL
section
open RankLaw
def amtOk (l : List Cl) : Prop := ∀ c ∈ l, 0 ≤ c.amt ∧ c.amt ≤ 1000000000000000
theorem amt_nth {l : List Cl} (h : amtOk l) {k : Nat} (hk : k < l.length) : 0 ≤ (nth l k).amt ∧ (nth l k).amt ≤ 1000000000000000 := h _ (nth_mem hk)
theorem amt_take {l : List Cl} (h : amtOk l) (k : Nat) : amtOk (l.take k) := fun c hc => h c (List.mem_of_mem_take hc)
theorem take_sums {l : List Cl} (h : amtOk l) (hl : l.length ≤ 2000) (j : Nat) (k : Int) : (0 ≤ less (l.take j) k ∧ less (l.take j) k ≤ 2000000000000000000) ∧ (0 ≤ same (l.take j) k ∧ same (l.take j) k ≤ 2000000000000000000) ∧ (0 ≤ total (l.take j) ∧ total (l.take j) ≤ 2000000000000000000) := by
  have h1 := sums_le (M := 1000000000000000) (by omega) (amt_take h j) k
  have h2 : (l.take j).length ≤ 2000 := by simp; omega
  omega
theorem before_ok (l : List Cl) (k : Int) (h : amtOk l) (hl : l.length ≤ 2000) : ACalls Try.prog 32 [slC l, cI k] (.tup [cI (less l k), cI (same l k)]) := by
  refine ACalls.of_W (qs := [cI (less l k), cI (same l k)]) [4, 5] 45 Try.func32 (by kernel_rfl) rfl rfl rfl fun G => ?_
  refine W.initA (hw := ?_)
  repeat' (first | ((first | apply U_); (first | exact QX.B TYok | exact QX.Len TYok | exact QX.Idx TYok); exact rfl) | refine SC ?_ | (apply S_isnil TYok; exact rfl; exact rfl; exact rfl; exact Ev.auto; intro bn hnil) | (refine W.condA (ht := fun hb => ?_) (hf := fun hb => ?_) <;> (try simp at hb) <;> (try (exfalso; omega))))
  apply W.loopP (σ := Nat) 45 [0, 1] (fun j => j ≤ l.length) (fun j => [(8, vI j), (6, vI (less (l.take j) k)), (7, vI (same (l.take j) k))]) (fun _ => []) (fun j => l.length - j) (0)
  case hp => repeat (first | exact Pick.nil | apply Pick.cons rfl)
  case h0 =>
    refine ⟨by omega, ?_⟩
    exact Le.auto
  case round =>
    rintro j g1
    apply W.norm (by repeat (first | exact App.nil | apply App.cons))
    by_cases hj : j < l.length
    · have b := take_sums h hl j k
      have c := amt_nth h hj
      have e1 := less_snoc (l.take j) (nth l j) k
      have e2 := same_snoc (l.take j) (nth l j) k
      rw [← take_nth hj] at e1 e2
      generalize less (l.take j) k = A at *
      generalize same (l.take j) k = S at *
      repeat' (first | ((first | apply U_); (first | exact QX.B TYok | exact QX.Len TYok | exact QX.Idx TYok); exact rfl) | refine SC ?_ | (apply S_isnil TYok; exact rfl; exact rfl; exact rfl; exact Ev.auto; intro bn hnil) | (refine W.condA (ht := fun hb => ?_) (hf := fun hb => ?_) <;> (try simp at hb) <;> (try (exfalso; omega))))
      all_goals first
        | (refine ⟨j + 1, by omega, ?_, by omega⟩
           (try dsimp only)
           rw [e1, e2]
           first
             | rw [if_pos (by assumption), if_pos (by assumption)]
             | rw [if_pos (by assumption), if_neg (by assumption), Int.add_zero]
             | rw [if_pos (by omega), if_neg (by omega), Int.add_zero]
             | rw [if_neg (by omega), if_pos (by omega), Int.add_zero]
             | rw [if_neg (by omega), if_neg (by omega), Int.add_zero, Int.add_zero]
           exact Le.auto)
        | (exfalso; omega)
        | trace_state
    · obtain rfl : j = l.length := by omega
      rw [List.take_length]
      repeat' (first | ((first | apply U_); (first | exact QX.B TYok | exact QX.Len TYok | exact QX.Idx TYok); exact rfl) | refine SC ?_ | (apply S_isnil TYok; exact rfl; exact rfl; exact rfl; exact Ev.auto; intro bn hnil) | (refine W.condA (ht := fun hb => ?_) (hf := fun hb => ?_) <;> (try simp at hb) <;> (try (exfalso; omega))))
      exact Fin.ret ResL.auto
theorem rfew_ok (s : Int) (d : List Int) (s' : Int) (d' : List Int) (l : List Cl) (hd : d.length ≤ 9223372036854775807) (hd' : d'.length ≤ 9223372036854775807) (hl : l.length ≤ 9223372036854775807) : ACalls Try.prog 8 [fB s d s' d', slC l] (.pv (cB ((decide ((l.length : Int) ≤ 20) && decide ((d.length : Int) ≤ 20)) && decide ((d'.length : Int) ≤ 20)))) := by
  refine ACalls.of_W (qs := [cB ((decide ((l.length : Int) ≤ 20) && decide ((d.length : Int) ≤ 20)) && decide ((d'.length : Int) ≤ 20))]) [4] 22 Try.func8 (by kernel_rfl) rfl rfl rfl fun G => ?_
  refine W.initA (hw := ?_)
  repeat' (first | ((first | apply U_ | (apply Ug_; exact rfl; exact rfl) | (apply Ugq_; exact rfl; exact rfl)); (first | exact QX.B TYok | exact QX.Len TYok); exact rfl) | refine SX.Box TYok (h := ?_) | refine SC ?_ | refine SG ?_ | (refine W.condA (ht := fun hb => ?_) (hf := fun hb => ?_) <;> (try simp at hb) <;> (try (exfalso; omega))))
  all_goals exact Fin.ret ResL.auto
abbrev encQ (r : Rat) : List Cell := [.int .i64 (sgn r.num), .sl ((digs (mag r.num)).map Lf.encI), .int .i64 (sgn r.den), .sl ((digs (mag r.den)).map Lf.encI)]
abbrev slQ (l : List Rat) : PV := .one (.sl (l.map encQ))
instance : Inhabited Rat := ⟨0⟩
attribute [local irreducible] sgn mag gcdZ quoZ remZ fullZ fullE
theorem sameQ_ok (a b : List Rat) (ha : ∀ r ∈ a, okF r) (hB : ∀ r ∈ b, okF r) (hl : a.length ≤ 1000000) (hl' : b.length ≤ 1000000) : ACalls Try.prog 13 [slQ a, slQ b] (.pv (cB (decide (a = b)))) := by
  by_cases hab : a.length = b.length
  case neg =>
    rw [decide_eq_false (fun e => hab (by rw [e]))]
    refine ACalls.of_W (qs := [cB false]) [4] 27 Try.func13 (by kernel_rfl) rfl rfl rfl fun G => ?_
    refine W.initA (hw := ?_)
    repeat' (first | (exfalso; omega) | ((first | apply U_ | apply Lex.u | (apply Lex.g; exact rfl; exact rfl) | (apply Lex.gq; exact rfl; exact rfl)); (first | exact QX.B TYok | exact QX.Len TYok | exact QX.Idx TYok); exact rfl) | refine SC ?_ | (apply W.draw2 (id := 6) [0, 0, 3, 7, 0, 0, 48, 112, 255, 511] [[0], [5], [17, 18], [19], [1], [5], [21, 22], [23], [20, 24], [25]] 10 [(17, 1), (18, 32), (19, 393216), (20, 524288), (21, 2), (22, 32), (23, 6291456), (24, 8388608), (25, 17825792), (26, 33554432)] mixed (by kernel_rfl) rfl rfl) | (refine W.condA (ht := fun hb => ?_) (hf := fun hb => ?_) <;> (try simp at hb) <;> (try (exfalso; omega))))
    all_goals exact Fin.ret ResL.auto
  refine ACalls.of_W (qs := [cB (decide (a = b))]) [4] 27 Try.func13 (by kernel_rfl) rfl rfl rfl fun G => ?_
  refine W.initA (hw := ?_)
  repeat' (first | (exfalso; omega) | ((first | apply U_ | apply Lex.u | (apply Lex.g; exact rfl; exact rfl) | (apply Lex.gq; exact rfl; exact rfl)); (first | exact QX.B TYok | exact QX.Len TYok | exact QX.Idx TYok); exact rfl) | refine SC ?_ | (apply W.draw2 (id := 6) [0, 0, 3, 7, 0, 0, 48, 112, 255, 511] [[0], [5], [17, 18], [19], [1], [5], [21, 22], [23], [20, 24], [25]] 10 [(17, 1), (18, 32), (19, 393216), (20, 524288), (21, 2), (22, 32), (23, 6291456), (24, 8388608), (25, 17825792), (26, 33554432)] mixed (by kernel_rfl) rfl rfl) | (refine W.condA (ht := fun hb => ?_) (hf := fun hb => ?_) <;> (try simp at hb) <;> (try (exfalso; omega))))
  apply W.loopP (σ := Nat) 27 [0, 1] (fun k => k ≤ a.length ∧ a.take k = b.take k) (fun k => [(5, vI k)]) (fun _ => []) (fun k => a.length - k) (0)
  case hp => repeat (first | exact Pick.nil | apply Pick.cons rfl)
  case h0 =>
    refine ⟨by simp, ?_⟩
    exact Le.auto
  case round =>
    rintro k ⟨g1, g2⟩
    apply W.norm (by repeat (first | exact App.nil | apply App.cons))
    by_cases hk : k < a.length
    · have s1 := same_ok (nth a k) (nth b k) (ha _ (nth_mem hk)) (hB _ (nth_mem (by omega)))
      by_cases he : nth a k = nth b k
      · rw [decide_eq_true he] at s1
        repeat' (first | ((first | apply U_ | apply Lex.u | (apply Lex.g; exact rfl; exact rfl) | (apply Lex.gq; exact rfl; exact rfl)); (first | exact QX.B TYok | exact QX.Len TYok | exact QX.Idx TYok | exact QCd (s1)); exact rfl) | refine SC ?_ | (apply W.draw2 (id := 6) [0, 0, 3, 7, 0, 0, 48, 112, 255, 511] [[0], [5], [17, 18], [19], [1], [5], [21, 22], [23], [20, 24], [25]] 10 [(17, 1), (18, 32), (19, 393216), (20, 524288), (21, 2), (22, 32), (23, 6291456), (24, 8388608), (25, 17825792), (26, 33554432)] mixed (by kernel_rfl) rfl rfl) | (refine W.condA (ht := fun hb => ?_) (hf := fun hb => ?_) <;> (try simp at hb) <;> (try (exfalso; omega))))
        all_goals first
          | (refine ⟨k + 1, ⟨by omega, by rw [take_nth hk, take_nth (by omega), g2, he]⟩, ?_, by omega⟩; exact Le.auto)
          | (exfalso; omega)
          | trace_state
      · rw [decide_eq_false he] at s1
        rw [decide_eq_false (fun e => by subst e; exact he rfl)]
        repeat' (first | ((first | apply U_ | apply Lex.u | (apply Lex.g; exact rfl; exact rfl) | (apply Lex.gq; exact rfl; exact rfl)); (first | exact QX.B TYok | exact QX.Len TYok | exact QX.Idx TYok | exact QCd (s1)); exact rfl) | refine SC ?_ | (apply W.draw2 (id := 6) [0, 0, 3, 7, 0, 0, 48, 112, 255, 511] [[0], [5], [17, 18], [19], [1], [5], [21, 22], [23], [20, 24], [25]] 10 [(17, 1), (18, 32), (19, 393216), (20, 524288), (21, 2), (22, 32), (23, 6291456), (24, 8388608), (25, 17825792), (26, 33554432)] mixed (by kernel_rfl) rfl rfl) | (refine W.condA (ht := fun hb => ?_) (hf := fun hb => ?_) <;> (try simp at hb) <;> (try (exfalso; omega))))
        all_goals first
          | exact Fin.ret ResL.auto
          | trace_state
    · obtain rfl : k = a.length := by omega
      rw [List.take_length, hab, List.take_length] at g2
      rw [decide_eq_true g2]
      repeat' (first | ((first | apply U_ | apply Lex.u | (apply Lex.g; exact rfl; exact rfl) | (apply Lex.gq; exact rfl; exact rfl)); (first | exact QX.B TYok | exact QX.Len TYok | exact QX.Idx TYok); exact rfl) | refine SC ?_ | (apply W.draw2 (id := 6) [0, 0, 3, 7, 0, 0, 48, 112, 255, 511] [[0], [5], [17, 18], [19], [1], [5], [21, 22], [23], [20, 24], [25]] 10 [(17, 1), (18, 32), (19, 393216), (20, 524288), (21, 2), (22, 32), (23, 6291456), (24, 8388608), (25, 17825792), (26, 33554432)] mixed (by kernel_rfl) rfl rfl) | (refine W.condA (ht := fun hb => ?_) (hf := fun hb => ?_) <;> (try simp at hb) <;> (try (exfalso; omega))))
      exact Fin.ret ResL.auto
end
end Go.Proofs.Ytndfnihglpconaa
end
