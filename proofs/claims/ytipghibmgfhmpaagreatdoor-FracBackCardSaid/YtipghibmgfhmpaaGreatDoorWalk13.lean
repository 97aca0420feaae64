/-
  Fractions: what a pair of right numbers stands for; the program's arithmetic on them.
-/
import Derived.Test.YtipghibmgfhmpaaGreatDoorWalk12
import Derived.Test.YtipghibmgfhmpaaGreatDoorLfPurge
import Derived.Test.YtipghibmgfhmpaaGreatDoorLfDrawS
set_option linter.unusedVariables false
set_option linter.unusedSimpArgs false
set_option maxHeartbeats 8000000
namespace Go.Proofs.YtipghibmgfhmpaaGreatDoor
open Lf Go
attribute [local irreducible] PureOp EffOp Ev RG W Then InBlock Lf.Fin nth App InitE Pick SubE SubF SubG EvL EvD EvP EvR ResL Lf.Lex SubR SubBR RA RAll EvC FinO FinM ResM FinB ResD FinS val pw digs trimL

section
abbrev fB (s : Int) (l : List Int) (s' : Int) (l' : List Int) : PV := .agg [.int .i64 s, .sl (l.map Lf.encI), .int .i64 s', .sl (l'.map Lf.encI)]
abbrev zF2 (p q : Int) : PV := fB (sgn p) (digs (mag p)) (sgn q) (digs (mag q))
abbrev zF (r : Rat) : PV := zF2 r.num r.den
abbrev zF0 : PV := fB 0 [] 0 []
theorem zeroSubF : PSub (.agg [.int .i64 0, .slnil, .int .i64 0, .slnil]) zF0 := ⟨.refl _, .nil, .refl _, .nil, trivial⟩
def okF (r : Rat) : Prop := okZ r.num ∧ okZ r.den
theorem den_pos (r : Rat) : (0 : Int) < r.den := by have := r.den_nz; omega
theorem den_ne (r : Rat) : (r.den : Int) ≠ 0 := by have := r.den_nz; omega
theorem quo_pos' {x g : Int} (h : 0 < g) : quoZ x g = x / g := if_pos h
theorem gcd_pos {x y : Int} (hy : y ≠ 0) : 0 < gcdZ x y := by
  unfold gcdZ
  have : Int.gcd x y ≠ 0 := fun h => hy (Int.gcd_eq_zero_iff.1 h).2
  omega
theorem divInt_pos {x y : Int} (hy : 0 < y) : (Rat.divInt x y).num = quoZ x (gcdZ x y) ∧ ((Rat.divInt x y).den : Int) = quoZ y (gcdZ x y) := by
  have hg := gcd_pos (x := x) (show y ≠ 0 by omega)
  rw [quo_pos' hg, quo_pos' hg, Rat.num_divInt, Rat.den_divInt, if_neg (by omega), Int.sign_eq_one_of_pos hy, Int.one_mul, Int.gcd_comm]
  refine ⟨rfl, ?_⟩
  unfold gcdZ
  rw [Int.natCast_ediv]
  congr 1
  omega
theorem divInt_flip (x y : Int) : Rat.divInt (-x) (-y) = Rat.divInt x y := by
  by_cases hy : y = 0
  · subst hy
    rw [Int.neg_zero, Rat.divInt_zero, Rat.divInt_zero]
  · have := Rat.divInt_mul_left (n := x) (d := y) (a := -1) (by decide)
    rw [← this]
    congr 1 <;> omega
theorem num_den_gcd (r : Rat) : gcdZ r.num r.den = 1 := by
  have := r.reduced
  unfold gcdZ
  exact congrArg (fun n : Nat => (n : Int)) this
theorem rat_of {x y : Int} (hy : 0 < y) (hg : gcdZ x y = 1) : (Rat.divInt x y).num = x ∧ ((Rat.divInt x y).den : Int) = y := by
  obtain ⟨h1, h2⟩ := divInt_pos (x := x) hy
  rw [hg] at h1 h2
  rw [h1, h2, quo_pos' (by decide), quo_pos' (by decide)]
  omega
theorem rat_add (a b : Rat) : a + b = Rat.divInt (a.num * b.den + b.num * a.den) (a.den * b.den) := by
  have := Rat.divInt_add_divInt a.num b.num (d₁ := a.den) (d₂ := b.den) (den_ne a) (den_ne b)
  rwa [Rat.num_divInt_den, Rat.num_divInt_den] at this
theorem rat_mul (a b : Rat) : a * b = Rat.divInt (a.num * b.num) (a.den * b.den) := by
  have := Rat.divInt_mul_divInt a.num b.num (d₁ := a.den) (d₂ := b.den)
  rwa [Rat.num_divInt_den, Rat.num_divInt_den] at this
theorem rat_div (a b : Rat) (h : b.num ≠ 0) : a / b = Rat.divInt (a.num * b.den) (a.den * b.num) := by
  rw [Rat.div_def, Rat.inv_def]
  have := Rat.divInt_mul_divInt a.num b.den (d₁ := a.den) (d₂ := b.num)
  rwa [Rat.num_divInt_den] at this
theorem quo_le {x g : Int} (hg : 0 < g) : mag (quoZ x g) ≤ mag x := by
  rw [quo_pos' hg]
  have h1 := sgn_cases x
  have h2 := sgn_cases (x / g)
  have h3 : x = g * (x / g) + x % g := (Int.mul_ediv_add_emod x g).symm
  have h4 := Int.emod_nonneg x (show g ≠ 0 by omega)
  have h5 := Int.emod_lt_of_pos x hg
  by_cases hx : 0 ≤ x
  · have := Int.ediv_nonneg hx (show 0 ≤ g by omega)
    have := Int.ediv_le_self g hx
    omega
  · have h6 : x / g < 0 := Int.ediv_neg_of_neg_of_pos (by omega) hg
    have h7 : x ≤ x / g := by
      rw [Int.le_ediv_iff_mul_le hg]
      have := Int.mul_le_mul_of_nonneg_left (show 1 ≤ g by omega) (show 0 ≤ -x by omega)
      have e : x * g = -(-x * g) := by grind
      omega
    omega
/-- what a fraction of two numbers is not greater than -/
theorem divInt_le {x y : Int} (hy : y ≠ 0) : mag (Rat.divInt x y).num ≤ mag x ∧ mag (Rat.divInt x y).den ≤ mag y := by
  by_cases h : 0 < y
  · obtain ⟨h1, h2⟩ := divInt_pos (x := x) h
    have hg := gcd_pos (x := x) hy
    rw [h1, h2]
    exact ⟨quo_le hg, quo_le hg⟩
  · obtain ⟨h1, h2⟩ := divInt_pos (x := -x) (y := -y) (by omega)
    rw [divInt_flip] at h1 h2
    have hg := gcd_pos (x := -x) (y := -y) (by omega)
    rw [h1, h2]
    have e1 : mag (-x) = mag x := by have := sgn_cases x; have := sgn_cases (-x); omega
    have e2 : mag (-y) = mag y := by have := sgn_cases y; have := sgn_cases (-y); omega
    have := quo_le (x := -x) hg
    have := quo_le (x := -y) hg
    omega
theorem okF_of {x y : Int} (hx : okZ x) (hy : okZ y) (h0 : y ≠ 0) : okF (Rat.divInt x y) := by
  obtain ⟨h1, h2⟩ := divInt_le (x := x) h0
  unfold okF okZ at *
  omega
theorem sgn0 : sgn 0 = 0 := rfl
attribute [local irreducible] sgn mag gcdZ quoZ remZ txtZ readF fullZ fullE
def rightFB (s : Int) (l : List Int) (s' : Int) (l' : List Int) : Bool := rightB s l && rightB s' l' && decide (s' = 1) && decide (gcdZ (s * val l) (val l') = 1)
theorem one_ok (x : Int) (hx : okZ x) : ACalls Tryz.prog 57 [zB x] (.pv (cB (decide (x = 1)))) := by
  have h1 := intZ_ok x hx
  by_cases hi : i64B x
  · rw [show intV x = x from if_pos hi, decide_eq_true hi] at h1
    refine ACalls.of_W (qs := [cB (decide (x = 1))]) [2] 15 Tryz.func57 (by kernel_rfl) rfl rfl rfl fun G => ?_
    refine W.initA (hw := ?_)
    repeat' (first
      | ((first | apply U_ | (apply Ug_; exact rfl; exact rfl) | (apply Ugq_; exact rfl; exact rfl)); (first
    | exact QX.Move TYok
    | exact QX.Asg TYok
    | exact QX.Ld TYok
    | exact QX.Bin TYok
    | exact QX.Pick TYok
    | exact QX.Ext TYok
    | (apply Q_calld (h1); exact EvD.auto)); exact rfl)
      | refine SX.Box TYok (h := ?_)
      | apply RG.nil
      | apply Lex.nil
      | apply Then.n
      | apply Then.r
      | apply Then.x
      | apply InBlock.n
      | apply InBlock.r
      | apply InBlock.hit
      | (apply InBlock.miss; exact rfl)
      | apply W.seq
      | apply W.region
      | apply W.block
      | apply W.skip
      | apply W.ret
      | apply W.exit
      | (apply S_isnil TYok; exact rfl; exact rfl; exact rfl; exact Ev.auto; intro bn hnil)
      | (apply RG.gT; exact rfl; exact rfl; (first | assumption | decide))
      | (apply RG.gF; exact rfl; exact rfl; (first | assumption | decide | (rw [ne_eq, Bool.not_eq_true]; assumption) | (rw [ne_eq, Bool.not_eq_false]; assumption)); exact rfl)
      | (refine W.condA (ht := fun hb => ?_) (hf := fun hb => ?_) <;> (try simp at hb) <;> (try (exfalso; omega))))
    all_goals exact Fin.ret ResL.auto
  · rw [show intV x = 0 from if_neg hi, decide_eq_false hi] at h1
    have e : ¬ x = 1 := fun h => hi (by unfold i64B; omega)
    rw [decide_eq_false e]
    refine ACalls.of_W (qs := [cB false]) [2] 15 Tryz.func57 (by kernel_rfl) rfl rfl rfl fun G => ?_
    refine W.initA (hw := ?_)
    repeat' (first
      | ((first | apply U_ | (apply Ug_; exact rfl; exact rfl) | (apply Ugq_; exact rfl; exact rfl)); (first
    | exact QX.Move TYok
    | exact QX.Asg TYok
    | exact QX.Ld TYok
    | exact QX.Bin TYok
    | exact QX.Pick TYok
    | exact QX.Ext TYok
    | (apply Q_calld (h1); exact EvD.auto)); exact rfl)
      | refine SX.Box TYok (h := ?_)
      | apply RG.nil
      | apply Lex.nil
      | apply Then.n
      | apply Then.r
      | apply Then.x
      | apply InBlock.n
      | apply InBlock.r
      | apply InBlock.hit
      | (apply InBlock.miss; exact rfl)
      | apply W.seq
      | apply W.region
      | apply W.block
      | apply W.skip
      | apply W.ret
      | apply W.exit
      | (apply S_isnil TYok; exact rfl; exact rfl; exact rfl; exact Ev.auto; intro bn hnil)
      | (apply RG.gT; exact rfl; exact rfl; (first | assumption | decide))
      | (apply RG.gF; exact rfl; exact rfl; (first | assumption | decide | (rw [ne_eq, Bool.not_eq_true]; assumption) | (rw [ne_eq, Bool.not_eq_false]; assumption)); exact rfl)
      | (refine W.condA (ht := fun hb => ?_) (hf := fun hb => ?_) <;> (try simp at hb) <;> (try (exfalso; omega))))
    all_goals exact Fin.ret ResL.auto
theorem fright_ok (s : Int) (l : List Int) (s' : Int) (l' : List Int) (hl : l.length ≤ 9223372036854775807) (hl' : l'.length ≤ 9223372036854775807) : ACalls Tryz.prog 25 [fB s l s' l'] (.pv (cB (rightFB s l s' l'))) := by
  have r1 := rightL_ok s l hl
  have r2 := rightL_ok s' l' hl'
  by_cases hw : (rightB s l = true ∧ rightB s' l' = true) ∧ s' = 1
  case neg =>
    have e : rightFB s l s' l' = false := by
      unfold rightFB
      cases h1 : rightB s l <;> cases h2 : rightB s' l' <;> simp_all
    rw [e]
    generalize rightB s l = b1 at r1 hw
    generalize rightB s' l' = b2 at r2 hw
    refine ACalls.of_W (qs := [cB false]) [2] 35 Tryz.func25 (by kernel_rfl) rfl rfl rfl fun G => ?_
    refine W.initA (hw := ?_)
    repeat' (first
      | ((first | apply U_ | (apply Ug_; exact rfl; exact rfl) | (apply Ugq_; exact rfl; exact rfl)); (first
    | exact QX.Move TYok
    | exact QX.Asg TYok
    | exact QX.Fld TYok
    | exact QX.Ld TYok
    | exact QX.Bin TYok
    | exact QX.Pick TYok
    | exact QX.Un TYok
    | exact QX.Ext TYok
    | (apply Q_calld (r1); exact EvD.auto)
    | (apply Q_calld (r2); exact EvD.auto)); exact rfl)
      | refine SX.Alloc TYok (h := ?_)
      | refine SX.Store TYok (h := ?_)
      | refine SX.Box TYok (h := ?_)
      | apply RG.nil
      | apply Lex.nil
      | apply Then.n
      | apply Then.r
      | apply Then.x
      | apply InBlock.n
      | apply InBlock.r
      | apply InBlock.hit
      | (apply InBlock.miss; exact rfl)
      | apply W.seq
      | apply W.region
      | apply W.block
      | apply W.skip
      | apply W.ret
      | apply W.exit
      | (apply S_isnil TYok; exact rfl; exact rfl; exact rfl; exact Ev.auto; intro bn hnil)
      | (apply RG.gT; exact rfl; exact rfl; (first | assumption | decide))
      | (apply RG.gF; exact rfl; exact rfl; (first | assumption | decide | (rw [ne_eq, Bool.not_eq_true]; assumption) | (rw [ne_eq, Bool.not_eq_false]; assumption)); exact rfl)
      | (refine W.condA (ht := fun hb => ?_) (hf := fun hb => ?_) <;> (try simp at hb) <;> (try (exfalso; first | exact hw hb | omega))))
    all_goals exact Fin.ret ResL.auto
  obtain ⟨⟨q1, q2⟩, h1⟩ := hw
  have e : rightFB s l s' l' = decide (gcdZ (s * val l) (val l') = 1) := by unfold rightFB; rw [q1, q2, decide_eq_true h1]; simp
  rw [e]
  rw [q1] at r1
  rw [q2] at r2
  obtain ⟨x, ox, rfl, rfl⟩ := right_num q1
  obtain ⟨y, oy, rfl, rfl⟩ := right_num q2
  have cy := sgn_cases y
  have ey : val (digs (mag y)) = y := by rw [val_mag]; omega
  have ex : sgn x * val (digs (mag x)) = x := by rw [val_mag, sgn_mag]
  rw [ex, ey]
  have g1 := gcdZ_ok x y ox oy
  have o1 := one_ok _ (gcd_lt ox oy)
  generalize gcdZ x y = g at *
  refine ACalls.of_W (qs := [cB (decide (g = 1))]) [2] 35 Tryz.func25 (by kernel_rfl) rfl rfl rfl fun G => ?_
  refine W.initA (hw := ?_)
  repeat' (first
    | ((first | apply U_ | (apply Ug_; exact rfl; exact rfl) | (apply Ugq_; exact rfl; exact rfl)); (first
    | exact QX.Move TYok
    | exact QX.Asg TYok
    | exact QX.Fld TYok
    | exact QX.Ld TYok
    | exact QX.Bin TYok
    | exact QX.Pick TYok
    | exact QX.Un TYok
    | exact QX.Ext TYok
    | (apply Q_calld (r1); exact EvD.auto)
    | (apply Q_calld (r2); exact EvD.auto)
    | (apply Q_calld (g1); exact EvD.auto)
    | (apply Q_calld (o1); exact EvD.auto)); exact rfl)
    | refine SX.Alloc TYok (h := ?_)
    | refine SX.Store TYok (h := ?_)
    | refine SX.Box TYok (h := ?_)
    | apply RG.nil
    | apply Lex.nil
    | apply Then.n
    | apply Then.r
    | apply Then.x
    | apply InBlock.n
    | apply InBlock.r
    | apply InBlock.hit
    | (apply InBlock.miss; exact rfl)
    | apply W.seq
    | apply W.region
    | apply W.block
    | apply W.skip
    | apply W.ret
    | apply W.exit
    | (apply S_isnil TYok; exact rfl; exact rfl; exact rfl; exact Ev.auto; intro bn hnil)
    | (apply RG.gT; exact rfl; exact rfl; (first | assumption | decide))
    | (apply RG.gF; exact rfl; exact rfl; (first | assumption | decide | (rw [ne_eq, Bool.not_eq_true]; assumption) | (rw [ne_eq, Bool.not_eq_false]; assumption)); exact rfl)
    | (refine W.condA (ht := fun hb => ?_) (hf := fun hb => ?_) <;> (try simp at hb) <;> (try (exfalso; omega))))
  all_goals exact Fin.ret ResL.auto
theorem fright_yes (r : Rat) (h : okF r) : ACalls Tryz.prog 25 [zF r] (.pv (cB true)) := by
  have hp := den_pos r
  have := fright_ok (sgn r.num) (digs (mag r.num)) (sgn r.den) (digs (mag r.den)) (by have := num_len h.1; omega) (by have := num_len h.2; omega)
  have e : rightFB (sgn r.num) (digs (mag r.num)) (sgn r.den) (digs (mag r.den)) = true := by
    unfold rightFB
    have c := sgn_cases r.den
    rw [num_right h.1, num_right h.2, decide_eq_true (show sgn r.den = 1 by omega), val_mag, val_mag, sgn_mag, show mag r.den = r.den by omega, num_den_gcd]; rfl
  rwa [e] at this
theorem frac_of {s s' : Int} {l l' : List Int} (h : rightFB s l s' l' = true) : ∃ r : Rat, okF r ∧ s = sgn r.num ∧ l = digs (mag r.num) ∧ s' = sgn r.den ∧ l' = digs (mag r.den) := by
  unfold rightFB at h
  simp only [Bool.and_eq_true, decide_eq_true_iff] at h
  obtain ⟨⟨⟨q1, q2⟩, h1⟩, hg⟩ := h
  obtain ⟨x, ox, rfl, rfl⟩ := right_num q1
  obtain ⟨y, oy, rfl, rfl⟩ := right_num q2
  have cy := sgn_cases y
  rw [val_mag, val_mag, sgn_mag, show mag y = y by omega] at hg
  obtain ⟨h3, h4⟩ := rat_of (x := x) (y := y) (by omega) hg
  exact ⟨Rat.divInt x y, ⟨by rw [h3]; exact ox, by rw [h4]; exact oy⟩, by rw [h3], by rw [h3], by rw [h4], by rw [h4]⟩
theorem new_zero (x : Int) (hx : okZ x) : ACalls Tryz.prog 23 [zB x, zB 0] (.tup [zF0, cI 15]) := by
  have r1 := right_yes hx
  have r2 := right_yes okZ.zero
  have e0 := sgn0
  refine ACalls.of_M TYok (qs := [zF0, cI 15]) [.cell 4 26, .tmp 5] 60 Tryz.func23 (by kernel_rfl) rfl rfl rfl fun G => ?_
  refine W.initA (hw := ?_)
  repeat' (first
    | ((first | apply U_ | (apply Ug_; exact rfl; exact rfl) | (apply Ugq_; exact rfl; exact rfl) | apply Lex.u | (apply Lex.g; exact rfl; exact rfl) | (apply Lex.gq; exact rfl; exact rfl)); (first
    | exact QX.Move TYok
    | exact QX.Asg TYok
    | exact QX.Fld TYok
    | exact QX.Ld TYok
    | exact QX.Bin TYok
    | exact QX.Pick TYok
    | exact QX.Un TYok
    | exact QX.Ext TYok
    | exact QX.Build TYok
    | (apply Q_calld (r1); exact EvD.auto)
    | (apply Q_calld (r2); exact EvD.auto)); exact rfl)
    | refine SX.Alloc TYok (h := ?_)
    | refine SX.Store TYok (h := ?_)
    | refine SX.Box TYok (h := ?_)
    | apply RG.nil
    | apply Lex.nil
    | apply Then.n
    | apply Then.r
    | apply Then.x
    | apply InBlock.n
    | apply InBlock.r
    | apply InBlock.hit
    | (apply InBlock.miss; exact rfl)
    | apply W.seq
    | apply W.region
    | apply W.block
    | apply W.skip
    | apply W.ret
    | apply W.exit
    | (apply S_isnil TYok; exact rfl; exact rfl; exact rfl; exact Ev.auto; intro bn hnil)
    | (apply RG.gT; exact rfl; exact rfl; (first | assumption | decide))
    | (apply RG.gF; exact rfl; exact rfl; (first | assumption | decide | (rw [ne_eq, Bool.not_eq_true]; assumption) | (rw [ne_eq, Bool.not_eq_false]; assumption)); exact rfl)
    | (apply W.draw2 (id := 6) [0, 1, 0, 7, 15, 31] [[2], [33], [3], [35]] 4 [(33, 4), (34, 8589934592), (35, 8), (36, 34359738368)] mixed (by kernel_rfl) rfl rfl)
    | (refine W.condA (ht := fun hb => ?_) (hf := fun hb => ?_) <;> (try simp at hb) <;> (try (exfalso; omega))))
  all_goals exact FinM.ret (ResM.cell rfl rfl rfl rfl zeroSubF (ResM.tmp rfl rfl PSub.rfl' ResM.nil))
theorem new_pos (x y : Int) (hx : okZ x) (hy : okZ y) (h0 : 0 < y) : ACalls Tryz.prog 23 [zB x, zB y] (.tup [zF2 (quoZ x (gcdZ x y)) (quoZ y (gcdZ x y)), cI 0]) := by
  have r1 := right_yes hx
  have r2 := right_yes hy
  have cy := sgn_cases y
  have hg := gcd_pos (x := x) (show y ≠ 0 by omega)
  have og := gcd_lt hx hy
  have g1 := gcdZ_ok x y hx hy
  have d1 := divZ_ok x (gcdZ x y) hx og (by omega)
  have d2 := divZ_ok y (gcdZ x y) hy og (by omega)
  generalize quoZ x (gcdZ x y) = a at *
  generalize quoZ y (gcdZ x y) = b at *
  generalize gcdZ x y = g at *
  refine ACalls.of_M TYok (qs := [zF2 a b, cI 0]) [.cell 4 26, .tmp 5] 60 Tryz.func23 (by kernel_rfl) rfl rfl rfl fun G => ?_
  refine W.initA (hw := ?_)
  repeat' (first
    | ((first | apply U_ | (apply Ug_; exact rfl; exact rfl) | (apply Ugq_; exact rfl; exact rfl) | apply Lex.u | (apply Lex.g; exact rfl; exact rfl) | (apply Lex.gq; exact rfl; exact rfl)); (first
    | exact QX.Move TYok
    | exact QX.Asg TYok
    | exact QX.Fld TYok
    | exact QX.Ld TYok
    | exact QX.Bin TYok
    | exact QX.Pick TYok
    | exact QX.Un TYok
    | exact QX.Ext TYok
    | exact QX.Build TYok
    | (apply Q_calld (r1); exact EvD.auto)
    | (apply Q_calld (r2); exact EvD.auto)
    | (apply Q_calld (g1); exact EvD.auto)
    | (apply Q_calld (d1); exact EvD.auto)
    | (apply Q_calld (d2); exact EvD.auto)); exact rfl)
    | refine SX.Alloc TYok (h := ?_)
    | refine SX.Store TYok (h := ?_)
    | refine SX.Box TYok (h := ?_)
    | apply RG.nil
    | apply Lex.nil
    | apply Then.n
    | apply Then.r
    | apply Then.x
    | apply InBlock.n
    | apply InBlock.r
    | apply InBlock.hit
    | (apply InBlock.miss; exact rfl)
    | apply W.seq
    | apply W.region
    | apply W.block
    | apply W.skip
    | apply W.ret
    | apply W.exit
    | (apply S_isnil TYok; exact rfl; exact rfl; exact rfl; exact Ev.auto; intro bn hnil)
    | (apply RG.gT; exact rfl; exact rfl; (first | assumption | decide))
    | (apply RG.gF; exact rfl; exact rfl; (first | assumption | decide | (rw [ne_eq, Bool.not_eq_true]; assumption) | (rw [ne_eq, Bool.not_eq_false]; assumption)); exact rfl)
    | (apply W.draw2 (id := 6) [0, 1, 0, 7, 15, 31] [[2], [33], [3], [35]] 4 [(33, 4), (34, 8589934592), (35, 8), (36, 34359738368)] mixed (by kernel_rfl) rfl rfl)
    | (refine W.condA (ht := fun hb => ?_) (hf := fun hb => ?_) <;> (try simp at hb) <;> (try (exfalso; omega))))
  all_goals exact FinM.ret ResM.auto
end
section
attribute [local irreducible] sgn mag gcdZ quoZ remZ txtZ readF fullZ fullE
theorem full_no {z : Int} (h : ¬ okZ z) : fullZ z = 0 ∧ fullE z = 6 := by
  unfold fullZ fullE
  exact ⟨if_neg h, if_neg h⟩
theorem new_neg (x y : Int) (hx : okZ x) (hy : okZ y) (h0 : y < 0) : ACalls Tryz.prog 23 [zB x, zB y] (.tup [zF2 (quoZ (-x) (gcdZ (-x) (-y))) (quoZ (-y) (gcdZ (-x) (-y))), cI 0]) := by
  have r1 := right_yes hx
  have r2 := right_yes hy
  have cy := sgn_cases y
  have n1 := neg_ok x hx
  have n2 := neg_ok y hy
  have ox := okZ_neg hx
  have oy := okZ_neg hy
  have hg := gcd_pos (x := -x) (show -y ≠ 0 by omega)
  have og := gcd_lt ox oy
  have g1 := gcdZ_ok (-x) (-y) ox oy
  have d1 := divZ_ok (-x) (gcdZ (-x) (-y)) ox og (by omega)
  have d2 := divZ_ok (-y) (gcdZ (-x) (-y)) oy og (by omega)
  generalize quoZ (-x) (gcdZ (-x) (-y)) = a at *
  generalize quoZ (-y) (gcdZ (-x) (-y)) = b at *
  generalize gcdZ (-x) (-y) = g at *
  refine ACalls.of_M TYok (qs := [zF2 a b, cI 0]) [.cell 4 26, .tmp 5] 60 Tryz.func23 (by kernel_rfl) rfl rfl rfl fun G => ?_
  refine W.initA (hw := ?_)
  repeat' (first
    | ((first | apply U_ | (apply Ug_; exact rfl; exact rfl) | (apply Ugq_; exact rfl; exact rfl) | apply Lex.u | (apply Lex.g; exact rfl; exact rfl) | (apply Lex.gq; exact rfl; exact rfl)); (first
    | exact QX.Move TYok
    | exact QX.Asg TYok
    | exact QX.Fld TYok
    | exact QX.Ld TYok
    | exact QX.Bin TYok
    | exact QX.Pick TYok
    | exact QX.Un TYok
    | exact QX.Ext TYok
    | exact QX.Build TYok
    | (apply Q_calld (r1); exact EvD.auto)
    | (apply Q_calld (r2); exact EvD.auto)
    | (apply Q_calld (n1); exact EvD.auto)
    | (apply Q_calld (n2); exact EvD.auto)
    | (apply Q_calld (g1); exact EvD.auto)
    | (apply Q_calld (d1); exact EvD.auto)
    | (apply Q_calld (d2); exact EvD.auto)); exact rfl)
    | refine SX.Alloc TYok (h := ?_)
    | refine SX.Store TYok (h := ?_)
    | refine SX.Box TYok (h := ?_)
    | apply RG.nil
    | apply Lex.nil
    | apply Then.n
    | apply Then.r
    | apply Then.x
    | apply InBlock.n
    | apply InBlock.r
    | apply InBlock.hit
    | (apply InBlock.miss; exact rfl)
    | apply W.seq
    | apply W.region
    | apply W.block
    | apply W.skip
    | apply W.ret
    | apply W.exit
    | (apply S_isnil TYok; exact rfl; exact rfl; exact rfl; exact Ev.auto; intro bn hnil)
    | (apply RG.gT; exact rfl; exact rfl; (first | assumption | decide))
    | (apply RG.gF; exact rfl; exact rfl; (first | assumption | decide | (rw [ne_eq, Bool.not_eq_true]; assumption) | (rw [ne_eq, Bool.not_eq_false]; assumption)); exact rfl)
    | (apply W.draw2 (id := 6) [0, 1, 0, 7, 15, 31] [[2], [33], [3], [35]] 4 [(33, 4), (34, 8589934592), (35, 8), (36, 34359738368)] mixed (by kernel_rfl) rfl rfl)
    | (refine W.condA (ht := fun hb => ?_) (hf := fun hb => ?_) <;> (try simp at hb) <;> (try (exfalso; omega))))
  all_goals exact FinM.ret ResM.auto
theorem new_ok (x y : Int) (hx : okZ x) (hy : okZ y) (h0 : y ≠ 0) : ACalls Tryz.prog 23 [zB x, zB y] (.tup [zF (Rat.divInt x y), cI 0]) := by
  by_cases h : 0 < y
  · obtain ⟨e1, e2⟩ := divInt_pos (x := x) h
    have := new_pos x y hx hy h
    rwa [← e1, ← e2] at this
  · obtain ⟨e1, e2⟩ := divInt_pos (x := -x) (y := -y) (by omega)
    have := new_neg x y hx hy (by omega)
    rw [← e1, ← e2, divInt_flip] at this
    exact this
def sumOk (a b c d : Int) : Prop := okZ (a * b) ∧ okZ (c * d) ∧ okZ (a * b + c * d)
theorem sum_yes (a b c d : Int) (ha : okZ a) (hb : okZ b) (hc : okZ c) (hd : okZ d) (h : sumOk a b c d) : ACalls Tryz.prog 40 [zB a, zB b, zB c, zB d] (.tup [zB (a * b + c * d), cI 0]) := by
  obtain ⟨h1, h2, h3⟩ := h
  have m1 := mulZ_ok a b ha hb
  rw [(full_yes h1).1, (full_yes h1).2] at m1
  have m2 := mulZ_ok c d hc hd
  rw [(full_yes h2).1, (full_yes h2).2] at m2
  have a1 := addZ_ok (a * b) (c * d) h1 h2
  rw [(full_yes h3).1, (full_yes h3).2] at a1
  refine ACalls.of_M TYok (qs := [zB (a * b + c * d), cI 0]) [.cell 8 24, .tmp 9] 38 Tryz.func40 (by kernel_rfl) rfl rfl rfl fun G => ?_
  refine W.initA (hw := ?_)
  repeat' (first
    | ((first | apply U_); (first
    | exact QX.Move TYok
    | exact QX.Asg TYok
    | exact QX.Ld TYok
    | exact QX.Bin TYok
    | exact QX.Ext TYok
    | exact QX.Build TYok
    | (apply Q_calld (m1); exact EvD.auto)
    | (apply Q_calld (m2); exact EvD.auto)
    | (apply Q_calld (a1); exact EvD.auto)); exact rfl)
    | refine SX.Alloc TYok (h := ?_)
    | refine SX.Store TYok (h := ?_)
    | refine SX.Box TYok (h := ?_)
    | apply RG.nil
    | apply Lex.nil
    | apply Then.n
    | apply Then.r
    | apply Then.x
    | apply InBlock.n
    | apply InBlock.r
    | apply InBlock.hit
    | (apply InBlock.miss; exact rfl)
    | apply W.seq
    | apply W.region
    | apply W.block
    | apply W.skip
    | apply W.ret
    | apply W.exit
    | (refine W.condA (ht := fun hb => ?_) (hf := fun hb => ?_) <;> (try simp at hb) <;> (try (exfalso; omega))))
  all_goals exact FinM.ret ResM.auto
theorem sum_no (a b c d : Int) (ha : okZ a) (hb : okZ b) (hc : okZ c) (hd : okZ d) (h : ¬ sumOk a b c d) : ACalls Tryz.prog 40 [zB a, zB b, zB c, zB d] (.tup [zB 0, cI 6]) := by
  have m1 := mulZ_ok a b ha hb
  have m2 := mulZ_ok c d hc hd
  by_cases h1 : okZ (a * b)
  · rw [(full_yes h1).1, (full_yes h1).2] at m1
    by_cases h2 : okZ (c * d)
    · rw [(full_yes h2).1, (full_yes h2).2] at m2
      have h3 : ¬ okZ (a * b + c * d) := fun q => h ⟨h1, h2, q⟩
      have a1 := addZ_ok (a * b) (c * d) h1 h2
      rw [(full_no h3).1, (full_no h3).2] at a1
      refine ACalls.of_M TYok (qs := [zB 0, cI 6]) [.cell 8 24, .tmp 9] 38 Tryz.func40 (by kernel_rfl) rfl rfl rfl fun G => ?_
      refine W.initA (hw := ?_)
      repeat' (first
        | ((first | apply U_); (first
    | exact QX.Move TYok
    | exact QX.Asg TYok
    | exact QX.Ld TYok
    | exact QX.Bin TYok
    | exact QX.Ext TYok
    | exact QX.Build TYok
    | (apply Q_calld (m1); exact EvD.auto)
    | (apply Q_calld (m2); exact EvD.auto)
    | (apply Q_calld (a1); exact EvD.auto)); exact rfl)
        | refine SX.Alloc TYok (h := ?_)
        | refine SX.Store TYok (h := ?_)
        | refine SX.Box TYok (h := ?_)
        | apply RG.nil
        | apply Lex.nil
        | apply Then.n
        | apply Then.r
        | apply Then.x
        | apply InBlock.n
        | apply InBlock.r
        | apply InBlock.hit
        | (apply InBlock.miss; exact rfl)
        | apply W.seq
        | apply W.region
        | apply W.block
        | apply W.skip
        | apply W.ret
        | apply W.exit
        | (refine W.condA (ht := fun hb => ?_) (hf := fun hb => ?_) <;> (try simp at hb) <;> (try (exfalso; omega))))
      all_goals exact FinM.ret ResM.auto
    · rw [(full_no h2).1, (full_no h2).2] at m2
      refine ACalls.of_M TYok (qs := [zB 0, cI 6]) [.cell 8 24, .tmp 9] 38 Tryz.func40 (by kernel_rfl) rfl rfl rfl fun G => ?_
      refine W.initA (hw := ?_)
      repeat' (first
        | ((first | apply U_); (first
    | exact QX.Move TYok
    | exact QX.Asg TYok
    | exact QX.Ld TYok
    | exact QX.Bin TYok
    | exact QX.Ext TYok
    | exact QX.Build TYok
    | (apply Q_calld (m1); exact EvD.auto)
    | (apply Q_calld (m2); exact EvD.auto)); exact rfl)
        | refine SX.Alloc TYok (h := ?_)
        | refine SX.Store TYok (h := ?_)
        | refine SX.Box TYok (h := ?_)
        | apply RG.nil
        | apply Lex.nil
        | apply Then.n
        | apply Then.r
        | apply Then.x
        | apply InBlock.n
        | apply InBlock.r
        | apply InBlock.hit
        | (apply InBlock.miss; exact rfl)
        | apply W.seq
        | apply W.region
        | apply W.block
        | apply W.skip
        | apply W.ret
        | apply W.exit
        | (refine W.condA (ht := fun hb => ?_) (hf := fun hb => ?_) <;> (try simp at hb) <;> (try (exfalso; omega))))
      all_goals exact FinM.ret (ResM.cell rfl rfl rfl rfl zeroSubZ (ResM.tmp rfl rfl PSub.rfl' ResM.nil))
  · rw [(full_no h1).1, (full_no h1).2] at m1
    refine ACalls.of_M TYok (qs := [zB 0, cI 6]) [.cell 8 24, .tmp 9] 38 Tryz.func40 (by kernel_rfl) rfl rfl rfl fun G => ?_
    refine W.initA (hw := ?_)
    repeat' (first
      | ((first | apply U_); (first
    | exact QX.Move TYok
    | exact QX.Asg TYok
    | exact QX.Ld TYok
    | exact QX.Bin TYok
    | exact QX.Ext TYok
    | exact QX.Build TYok
    | (apply Q_calld (m1); exact EvD.auto)); exact rfl)
      | refine SX.Alloc TYok (h := ?_)
      | refine SX.Store TYok (h := ?_)
      | refine SX.Box TYok (h := ?_)
      | apply RG.nil
      | apply Lex.nil
      | apply Then.n
      | apply Then.r
      | apply Then.x
      | apply InBlock.n
      | apply InBlock.r
      | apply InBlock.hit
      | (apply InBlock.miss; exact rfl)
      | apply W.seq
      | apply W.region
      | apply W.block
      | apply W.skip
      | apply W.ret
      | apply W.exit
      | (refine W.condA (ht := fun hb => ?_) (hf := fun hb => ?_) <;> (try simp at hb) <;> (try (exfalso; omega))))
    all_goals exact FinM.ret (ResM.cell rfl rfl rfl rfl zeroSubZ (ResM.tmp rfl rfl PSub.rfl' ResM.nil))
theorem quot_yes (p q : Int) (hp : okZ p) (hq : okZ q) (h0 : q ≠ 0) : ACalls Tryz.prog 41 [zB p, cI 0, zB q, cI 0] (.tup [zF (Rat.divInt p q), cI 0]) := by
  have n1 := new_ok p q hp hq h0
  generalize Rat.divInt p q = r at *
  refine ACalls.of_M TYok (qs := [zF r, cI 0]) [.cell 8 26, .tmp 9] 22 Tryz.func41 (by kernel_rfl) rfl rfl rfl fun G => ?_
  refine W.initA (hw := ?_)
  repeat' (first
    | ((first | apply U_ | (apply Ug_; exact rfl; exact rfl) | (apply Ugq_; exact rfl; exact rfl)); (first
    | exact QX.Move TYok
    | exact QX.Asg TYok
    | exact QX.Ld TYok
    | exact QX.Bin TYok
    | exact QX.Pick TYok
    | exact QX.Ext TYok
    | exact QX.Build TYok
    | (apply Q_calld (n1); exact EvD.auto)); exact rfl)
    | refine SX.Alloc TYok (h := ?_)
    | refine SX.Store TYok (h := ?_)
    | refine SX.Box TYok (h := ?_)
    | apply RG.nil
    | apply Lex.nil
    | apply Then.n
    | apply Then.r
    | apply Then.x
    | apply InBlock.n
    | apply InBlock.r
    | apply InBlock.hit
    | (apply InBlock.miss; exact rfl)
    | apply W.seq
    | apply W.region
    | apply W.block
    | apply W.skip
    | apply W.ret
    | apply W.exit
    | (apply RG.gT; exact rfl; exact rfl; (first | assumption | decide))
    | (apply RG.gF; exact rfl; exact rfl; (first | assumption | decide | (rw [ne_eq, Bool.not_eq_true]; assumption) | (rw [ne_eq, Bool.not_eq_false]; assumption)); exact rfl)
    | (refine W.condA (ht := fun hb => ?_) (hf := fun hb => ?_) <;> (try simp at hb) <;> (try (exfalso; omega))))
  all_goals exact FinM.ret ResM.auto
theorem quot_no (p e q f : Int) (h : e ≠ 0 ∨ f ≠ 0) : ACalls Tryz.prog 41 [zB p, cI e, zB q, cI f] (.tup [zF0, cI 6]) := by
  refine ACalls.of_M TYok (qs := [zF0, cI 6]) [.cell 8 26, .tmp 9] 22 Tryz.func41 (by kernel_rfl) rfl rfl rfl fun G => ?_
  refine W.initA (hw := ?_)
  repeat' (first
    | ((first | apply U_ | (apply Ug_; exact rfl; exact rfl) | (apply Ugq_; exact rfl; exact rfl)); (first
    | exact QX.Move TYok
    | exact QX.Asg TYok
    | exact QX.Ld TYok
    | exact QX.Bin TYok
    | exact QX.Pick TYok
    | exact QX.Ext TYok
    | exact QX.Build TYok); exact rfl)
    | refine SX.Alloc TYok (h := ?_)
    | refine SX.Store TYok (h := ?_)
    | refine SX.Box TYok (h := ?_)
    | apply RG.nil
    | apply Lex.nil
    | apply Then.n
    | apply Then.r
    | apply Then.x
    | apply InBlock.n
    | apply InBlock.r
    | apply InBlock.hit
    | (apply InBlock.miss; exact rfl)
    | apply W.seq
    | apply W.region
    | apply W.block
    | apply W.skip
    | apply W.ret
    | apply W.exit
    | (apply RG.gT; exact rfl; exact rfl; (first | assumption | decide))
    | (apply RG.gF; exact rfl; exact rfl; (first | assumption | decide | (rw [ne_eq, Bool.not_eq_true]; assumption) | (rw [ne_eq, Bool.not_eq_false]; assumption)); exact rfl)
    | (refine W.condA (ht := fun hb => ?_) (hf := fun hb => ?_) <;> (try simp at hb) <;> (try (exfalso; omega))))
  all_goals exact FinM.ret (ResM.cell rfl rfl rfl rfl zeroSubF (ResM.tmp rfl rfl PSub.rfl' ResM.nil))
def addOk (a b : Rat) : Prop := sumOk a.num b.den b.num a.den ∧ okZ (a.den * b.den)
theorem mul_ne {x y : Int} (hx : x ≠ 0) (hy : y ≠ 0) : x * y ≠ 0 := fun h => (Int.mul_eq_zero.1 h).elim hx hy
theorem add_yes (a b : Rat) (ha : okF a) (hb : okF b) (h : addOk a b) : ACalls Tryz.prog 10 [zF a, zF b] (.tup [zF (a + b), cI 0]) := by
  obtain ⟨h1, h2⟩ := h
  have r1 := fright_yes a ha
  have r2 := fright_yes b hb
  have s1 := sum_yes a.num b.den b.num a.den ha.1 hb.2 hb.1 ha.2 h1
  have m1 := mulZ_ok a.den b.den ha.2 hb.2
  rw [(full_yes h2).1, (full_yes h2).2] at m1
  have q1 := quot_yes _ _ h1.2.2 h2 (mul_ne (den_ne a) (den_ne b))
  rw [rat_add]
  generalize Rat.divInt (a.num * b.den + b.num * a.den) (a.den * b.den) = r at *
  refine ACalls.of_M TYok (qs := [zF r, cI 0]) [.cell 4 26, .tmp 5] 46 Tryz.func10 (by kernel_rfl) rfl rfl rfl fun G => ?_
  refine W.initA (hw := ?_)
  repeat' (first
    | ((first | apply U_ | (apply Ug_; exact rfl; exact rfl) | (apply Ugq_; exact rfl; exact rfl)); (first
    | exact QX.Move TYok
    | exact QX.Asg TYok
    | exact QX.Fld TYok
    | exact QX.Ld TYok
    | exact QX.Pick TYok
    | exact QX.Un TYok
    | exact QX.Ext TYok
    | exact QX.Build TYok
    | (apply Q_calld (r1); exact EvD.auto)
    | (apply Q_calld (r2); exact EvD.auto)
    | (apply Q_calld (s1); exact EvD.auto)
    | (apply Q_calld (m1); exact EvD.auto)
    | (apply Q_calld (q1); exact EvD.auto)); exact rfl)
    | refine SX.Alloc TYok (h := ?_)
    | refine SX.Store TYok (h := ?_)
    | refine SX.Box TYok (h := ?_)
    | apply RG.nil
    | apply Lex.nil
    | apply Then.n
    | apply Then.r
    | apply Then.x
    | apply InBlock.n
    | apply InBlock.r
    | apply InBlock.hit
    | (apply InBlock.miss; exact rfl)
    | apply W.seq
    | apply W.region
    | apply W.block
    | apply W.skip
    | apply W.ret
    | apply W.exit
    | (apply RG.gT; exact rfl; exact rfl; (first | assumption | decide))
    | (apply RG.gF; exact rfl; exact rfl; (first | assumption | decide | (rw [ne_eq, Bool.not_eq_true]; assumption) | (rw [ne_eq, Bool.not_eq_false]; assumption)); exact rfl)
    | (refine W.condA (ht := fun hb => ?_) (hf := fun hb => ?_) <;> (try simp at hb) <;> (try (exfalso; omega))))
  all_goals exact FinM.ret ResM.auto
theorem add_no (a b : Rat) (ha : okF a) (hb : okF b) (h : ¬ addOk a b) : ACalls Tryz.prog 10 [zF a, zF b] (.tup [zF0, cI 6]) := by
  have r1 := fright_yes a ha
  have r2 := fright_yes b hb
  have m1 := mulZ_ok a.den b.den ha.2 hb.2
  by_cases h1 : sumOk a.num b.den b.num a.den
  · have h2 : ¬ okZ (a.den * b.den) := fun q => h ⟨h1, q⟩
    have s1 := sum_yes a.num b.den b.num a.den ha.1 hb.2 hb.1 ha.2 h1
    rw [(full_no h2).1, (full_no h2).2] at m1
    have q1 := quot_no (a.num * b.den + b.num * a.den) 0 0 6 (.inr (by decide))
    refine ACalls.of_M TYok (qs := [zF0, cI 6]) [.cell 4 26, .tmp 5] 46 Tryz.func10 (by kernel_rfl) rfl rfl rfl fun G => ?_
    refine W.initA (hw := ?_)
    repeat' (first
      | ((first | apply U_ | (apply Ug_; exact rfl; exact rfl) | (apply Ugq_; exact rfl; exact rfl)); (first
    | exact QX.Move TYok
    | exact QX.Asg TYok
    | exact QX.Fld TYok
    | exact QX.Ld TYok
    | exact QX.Pick TYok
    | exact QX.Un TYok
    | exact QX.Ext TYok
    | exact QX.Build TYok
    | (apply Q_calld (r1); exact EvD.auto)
    | (apply Q_calld (r2); exact EvD.auto)
    | (apply Q_calld (s1); exact EvD.auto)
    | (apply Q_calld (m1); exact EvD.auto)
    | (apply Q_calld (q1); exact EvD.auto)); exact rfl)
      | refine SX.Alloc TYok (h := ?_)
      | refine SX.Store TYok (h := ?_)
      | refine SX.Box TYok (h := ?_)
      | apply RG.nil
      | apply Lex.nil
      | apply Then.n
      | apply Then.r
      | apply Then.x
      | apply InBlock.n
      | apply InBlock.r
      | apply InBlock.hit
      | (apply InBlock.miss; exact rfl)
      | apply W.seq
      | apply W.region
      | apply W.block
      | apply W.skip
      | apply W.ret
      | apply W.exit
      | (apply RG.gT; exact rfl; exact rfl; (first | assumption | decide))
      | (apply RG.gF; exact rfl; exact rfl; (first | assumption | decide | (rw [ne_eq, Bool.not_eq_true]; assumption) | (rw [ne_eq, Bool.not_eq_false]; assumption)); exact rfl)
      | (refine W.condA (ht := fun hb => ?_) (hf := fun hb => ?_) <;> (try simp at hb) <;> (try (exfalso; omega))))
    all_goals exact FinM.ret ResM.auto
  · have s1 := sum_no a.num b.den b.num a.den ha.1 hb.2 hb.1 ha.2 h1
    have q1 := quot_no 0 6 (fullZ (a.den * b.den)) (fullE (a.den * b.den)) (.inl (by decide))
    generalize fullZ (a.den * b.den) = w at *
    generalize fullE (a.den * b.den) = w2 at *
    refine ACalls.of_M TYok (qs := [zF0, cI 6]) [.cell 4 26, .tmp 5] 46 Tryz.func10 (by kernel_rfl) rfl rfl rfl fun G => ?_
    refine W.initA (hw := ?_)
    repeat' (first
      | ((first | apply U_ | (apply Ug_; exact rfl; exact rfl) | (apply Ugq_; exact rfl; exact rfl)); (first
    | exact QX.Move TYok
    | exact QX.Asg TYok
    | exact QX.Fld TYok
    | exact QX.Ld TYok
    | exact QX.Pick TYok
    | exact QX.Un TYok
    | exact QX.Ext TYok
    | exact QX.Build TYok
    | (apply Q_calld (r1); exact EvD.auto)
    | (apply Q_calld (r2); exact EvD.auto)
    | (apply Q_calld (s1); exact EvD.auto)
    | (apply Q_calld (m1); exact EvD.auto)
    | (apply Q_calld (q1); exact EvD.auto)); exact rfl)
      | refine SX.Alloc TYok (h := ?_)
      | refine SX.Store TYok (h := ?_)
      | refine SX.Box TYok (h := ?_)
      | apply RG.nil
      | apply Lex.nil
      | apply Then.n
      | apply Then.r
      | apply Then.x
      | apply InBlock.n
      | apply InBlock.r
      | apply InBlock.hit
      | (apply InBlock.miss; exact rfl)
      | apply W.seq
      | apply W.region
      | apply W.block
      | apply W.skip
      | apply W.ret
      | apply W.exit
      | (apply RG.gT; exact rfl; exact rfl; (first | assumption | decide))
      | (apply RG.gF; exact rfl; exact rfl; (first | assumption | decide | (rw [ne_eq, Bool.not_eq_true]; assumption) | (rw [ne_eq, Bool.not_eq_false]; assumption)); exact rfl)
      | (refine W.condA (ht := fun hb => ?_) (hf := fun hb => ?_) <;> (try simp at hb) <;> (try (exfalso; omega))))
    all_goals exact FinM.ret ResM.auto
def mulOk (a b : Rat) : Prop := okZ (a.num * b.num) ∧ okZ (a.den * b.den)
theorem fmul_yes (a b : Rat) (ha : okF a) (hb : okF b) (h : mulOk a b) : ACalls Tryz.prog 15 [zF a, zF b] (.tup [zF (a * b), cI 0]) := by
  obtain ⟨h1, h2⟩ := h
  have r1 := fright_yes a ha
  have r2 := fright_yes b hb
  have m1 := mulZ_ok a.num b.num ha.1 hb.1
  rw [(full_yes h1).1, (full_yes h1).2] at m1
  have m2 := mulZ_ok a.den b.den ha.2 hb.2
  rw [(full_yes h2).1, (full_yes h2).2] at m2
  have q1 := quot_yes _ _ h1 h2 (mul_ne (den_ne a) (den_ne b))
  rw [rat_mul]
  generalize Rat.divInt (a.num * b.num) (a.den * b.den) = r at *
  refine ACalls.of_M TYok (qs := [zF r, cI 0]) [.cell 4 26, .tmp 5] 42 Tryz.func15 (by kernel_rfl) rfl rfl rfl fun G => ?_
  refine W.initA (hw := ?_)
  repeat' (first
    | ((first | apply U_ | (apply Ug_; exact rfl; exact rfl) | (apply Ugq_; exact rfl; exact rfl)); (first
    | exact QX.Move TYok
    | exact QX.Asg TYok
    | exact QX.Fld TYok
    | exact QX.Ld TYok
    | exact QX.Pick TYok
    | exact QX.Un TYok
    | exact QX.Ext TYok
    | exact QX.Build TYok
    | (apply Q_calld (r1); exact EvD.auto)
    | (apply Q_calld (r2); exact EvD.auto)
    | (apply Q_calld (m1); exact EvD.auto)
    | (apply Q_calld (m2); exact EvD.auto)
    | (apply Q_calld (q1); exact EvD.auto)); exact rfl)
    | refine SX.Alloc TYok (h := ?_)
    | refine SX.Store TYok (h := ?_)
    | refine SX.Box TYok (h := ?_)
    | apply RG.nil
    | apply Lex.nil
    | apply Then.n
    | apply Then.r
    | apply Then.x
    | apply InBlock.n
    | apply InBlock.r
    | apply InBlock.hit
    | (apply InBlock.miss; exact rfl)
    | apply W.seq
    | apply W.region
    | apply W.block
    | apply W.skip
    | apply W.ret
    | apply W.exit
    | (apply RG.gT; exact rfl; exact rfl; (first | assumption | decide))
    | (apply RG.gF; exact rfl; exact rfl; (first | assumption | decide | (rw [ne_eq, Bool.not_eq_true]; assumption) | (rw [ne_eq, Bool.not_eq_false]; assumption)); exact rfl)
    | (refine W.condA (ht := fun hb => ?_) (hf := fun hb => ?_) <;> (try simp at hb) <;> (try (exfalso; omega))))
  all_goals exact FinM.ret ResM.auto
def divOk (a b : Rat) : Prop := okZ (a.num * b.den) ∧ okZ (a.den * b.num)
theorem fdiv_yes (a b : Rat) (ha : okF a) (hb : okF b) (h0 : b.num ≠ 0) (h : divOk a b) : ACalls Tryz.prog 17 [zF a, zF b] (.tup [zF (a / b), cI 0]) := by
  obtain ⟨h1, h2⟩ := h
  have r1 := fright_yes a ha
  have r2 := fright_yes b hb
  have cb := sgn_cases b.num
  have m1 := mulZ_ok a.num b.den ha.1 hb.2
  rw [(full_yes h1).1, (full_yes h1).2] at m1
  have m2 := mulZ_ok a.den b.num ha.2 hb.1
  rw [(full_yes h2).1, (full_yes h2).2] at m2
  have q1 := quot_yes _ _ h1 h2 (mul_ne (den_ne a) h0)
  rw [rat_div a b h0]
  generalize Rat.divInt (a.num * b.den) (a.den * b.num) = r at *
  refine ACalls.of_M TYok (qs := [zF r, cI 0]) [.cell 4 26, .tmp 5] 49 Tryz.func17 (by kernel_rfl) rfl rfl rfl fun G => ?_
  refine W.initA (hw := ?_)
  repeat' (first
    | ((first | apply U_ | (apply Ug_; exact rfl; exact rfl) | (apply Ugq_; exact rfl; exact rfl)); (first
    | exact QX.Move TYok
    | exact QX.Asg TYok
    | exact QX.Fld TYok
    | exact QX.Ld TYok
    | exact QX.Bin TYok
    | exact QX.Pick TYok
    | exact QX.Un TYok
    | exact QX.Ext TYok
    | exact QX.Build TYok
    | (apply Q_calld (r1); exact EvD.auto)
    | (apply Q_calld (r2); exact EvD.auto)
    | (apply Q_calld (m1); exact EvD.auto)
    | (apply Q_calld (m2); exact EvD.auto)
    | (apply Q_calld (q1); exact EvD.auto)); exact rfl)
    | refine SX.Alloc TYok (h := ?_)
    | refine SX.Store TYok (h := ?_)
    | refine SX.Box TYok (h := ?_)
    | apply RG.nil
    | apply Lex.nil
    | apply Then.n
    | apply Then.r
    | apply Then.x
    | apply InBlock.n
    | apply InBlock.r
    | apply InBlock.hit
    | (apply InBlock.miss; exact rfl)
    | apply W.seq
    | apply W.region
    | apply W.block
    | apply W.skip
    | apply W.ret
    | apply W.exit
    | (apply S_isnil TYok; exact rfl; exact rfl; exact rfl; exact Ev.auto; intro bn hnil)
    | (apply RG.gT; exact rfl; exact rfl; (first | assumption | decide))
    | (apply RG.gF; exact rfl; exact rfl; (first | assumption | decide | (rw [ne_eq, Bool.not_eq_true]; assumption) | (rw [ne_eq, Bool.not_eq_false]; assumption)); exact rfl)
    | (refine W.condA (ht := fun hb => ?_) (hf := fun hb => ?_) <;> (try simp at hb) <;> (try (exfalso; omega))))
  all_goals exact FinM.ret ResM.auto
theorem fdiv_zero (a b : Rat) (ha : okF a) (hb : okF b) (h0 : b.num = 0) : ACalls Tryz.prog 17 [zF a, zF b] (.tup [zF0, cI 15]) := by
  have r1 := fright_yes a ha
  have r2 := fright_yes b hb
  have cb := sgn_cases b.num
  refine ACalls.of_M TYok (qs := [zF0, cI 15]) [.cell 4 26, .tmp 5] 49 Tryz.func17 (by kernel_rfl) rfl rfl rfl fun G => ?_
  refine W.initA (hw := ?_)
  repeat' (first
    | ((first | apply U_ | (apply Ug_; exact rfl; exact rfl) | (apply Ugq_; exact rfl; exact rfl)); (first
    | exact QX.Move TYok
    | exact QX.Asg TYok
    | exact QX.Fld TYok
    | exact QX.Ld TYok
    | exact QX.Bin TYok
    | exact QX.Pick TYok
    | exact QX.Un TYok
    | exact QX.Ext TYok
    | exact QX.Build TYok
    | (apply Q_calld (r1); exact EvD.auto)
    | (apply Q_calld (r2); exact EvD.auto)); exact rfl)
    | refine SX.Alloc TYok (h := ?_)
    | refine SX.Store TYok (h := ?_)
    | refine SX.Box TYok (h := ?_)
    | apply RG.nil
    | apply Lex.nil
    | apply Then.n
    | apply Then.r
    | apply Then.x
    | apply InBlock.n
    | apply InBlock.r
    | apply InBlock.hit
    | (apply InBlock.miss; exact rfl)
    | apply W.seq
    | apply W.region
    | apply W.block
    | apply W.skip
    | apply W.ret
    | apply W.exit
    | (apply S_isnil TYok; exact rfl; exact rfl; exact rfl; exact Ev.auto; intro bn hnil)
    | (apply RG.gT; exact rfl; exact rfl; (first | assumption | decide))
    | (apply RG.gF; exact rfl; exact rfl; (first | assumption | decide | (rw [ne_eq, Bool.not_eq_true]; assumption) | (rw [ne_eq, Bool.not_eq_false]; assumption)); exact rfl)
    | (refine W.condA (ht := fun hb => ?_) (hf := fun hb => ?_) <;> (try simp at hb) <;> (try (exfalso; omega))))
  all_goals exact FinM.ret (ResM.cell rfl rfl rfl rfl zeroSubF (ResM.tmp rfl rfl PSub.rfl' ResM.nil))
theorem neg_okF {b : Rat} (h : okF b) : okF (-b) := ⟨by rw [Rat.neg_num]; exact okZ_neg h.1, by rw [Rat.neg_den]; exact h.2⟩
theorem fsub_yes (a b : Rat) (ha : okF a) (hb : okF b) (h : addOk a (-b)) : ACalls Tryz.prog 12 [zF a, zF b] (.tup [zF (a - b), cI 0]) := by
  have r1 := fright_yes a ha
  have r2 := fright_yes b hb
  have n1 := neg_ok b.num hb.1
  have a1 := add_yes a (-b) ha (neg_okF hb) h
  rw [show zF (-b) = zF2 (-b.num) b.den by show zF2 (-b).num ((-b).den : Int) = _; rw [Rat.neg_num, Rat.neg_den], ← Rat.sub_eq_add_neg] at a1
  generalize a - b = r at *
  refine ACalls.of_M TYok (qs := [zF r, cI 0]) [.cell 4 26, .tmp 5] 25 Tryz.func12 (by kernel_rfl) rfl rfl rfl fun G => ?_
  refine W.initA (hw := ?_)
  repeat' (first
    | ((first | apply U_ | (apply Ug_; exact rfl; exact rfl) | (apply Ugq_; exact rfl; exact rfl) | apply Lex.u | (apply Lex.g; exact rfl; exact rfl) | (apply Lex.gq; exact rfl; exact rfl)); (first
    | exact QX.Move TYok
    | exact QX.Asg TYok
    | exact QX.Fld TYok
    | exact QX.Ld TYok
    | exact QX.Pick TYok
    | exact QX.Un TYok
    | exact QX.Ext TYok
    | exact QX.Build TYok
    | (apply Q_calld (r1); exact EvD.auto)
    | (apply Q_calld (r2); exact EvD.auto)
    | (apply Q_calld (n1); exact EvD.auto)
    | (apply Q_calld (a1); exact EvD.auto)); exact rfl)
    | refine SX.Alloc TYok (h := ?_)
    | refine SX.Store TYok (h := ?_)
    | refine SX.Box TYok (h := ?_)
    | apply RG.nil
    | apply Lex.nil
    | apply Then.n
    | apply Then.r
    | apply Then.x
    | apply InBlock.n
    | apply InBlock.r
    | apply InBlock.hit
    | (apply InBlock.miss; exact rfl)
    | apply W.seq
    | apply W.region
    | apply W.block
    | apply W.skip
    | apply W.ret
    | apply W.exit
    | (apply RG.gT; exact rfl; exact rfl; (first | assumption | decide))
    | (apply RG.gF; exact rfl; exact rfl; (first | assumption | decide | (rw [ne_eq, Bool.not_eq_true]; assumption) | (rw [ne_eq, Bool.not_eq_false]; assumption)); exact rfl)
    | (apply W.draw2 (id := 3) [0, 0, 2, 6, 0, 16, 62, 127, 255, 255, 1023, 2047] [[2], [3], [16], [17], [3], [19], [18, 20], [15, 21], [22], [22]] 10 [(15, 4), (16, 8), (17, 65536), (18, 131072), (19, 8), (20, 524288), (21, 1310720), (22, 2129920), (23, 4194304), (24, 4194304)] mixed (by kernel_rfl) rfl rfl)
    | (refine W.condA (ht := fun hb => ?_) (hf := fun hb => ?_) <;> (try simp at hb) <;> (try (exfalso; omega))))
  all_goals exact FinM.ret ResM.auto
theorem floor_ok (r : Rat) (h : okF r) : ACalls Tryz.prog 32 [zF r] (.pv (zB (quoZ r.num r.den))) := by
  have r1 := fright_yes r h
  have d1 := divZ_ok r.num r.den h.1 h.2 (den_ne r)
  refine ACalls.of_M TYok (qs := [zB (quoZ r.num r.den)]) [.cell 2 24] 20 Tryz.func32 (by kernel_rfl) rfl rfl rfl fun G => ?_
  refine W.initA (hw := ?_)
  repeat' (first
    | ((first | apply U_); (first
    | exact QX.Move TYok
    | exact QX.Asg TYok
    | exact QX.Fld TYok
    | exact QX.Ld TYok
    | exact QX.Un TYok
    | exact QX.Ext TYok
    | exact QX.Build TYok
    | (apply Q_calld (r1); exact EvD.auto)
    | (apply Q_calld (d1); exact EvD.auto)); exact rfl)
    | refine SX.Alloc TYok (h := ?_)
    | refine SX.Store TYok (h := ?_)
    | refine SX.Box TYok (h := ?_)
    | apply RG.nil
    | apply Lex.nil
    | apply Then.n
    | apply Then.r
    | apply Then.x
    | apply InBlock.n
    | apply InBlock.r
    | apply InBlock.hit
    | (apply InBlock.miss; exact rfl)
    | apply W.seq
    | apply W.region
    | apply W.block
    | apply W.skip
    | apply W.ret
    | apply W.exit
    | (refine W.condA (ht := fun hb => ?_) (hf := fun hb => ?_) <;> (try simp at hb) <;> (try (exfalso; omega))))
  all_goals exact FinM.ret ResM.auto
end
end Go.Proofs.YtipghibmgfhmpaaGreatDoor
