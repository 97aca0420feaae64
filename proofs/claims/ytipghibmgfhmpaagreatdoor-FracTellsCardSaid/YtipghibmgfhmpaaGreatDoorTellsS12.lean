/-
  Part 12 of what the proof rests on.
-/
import Derived.Test.YtipghibmgfhmpaaGreatDoorTellsS09
section
set_option linter.unusedVariables false
set_option linter.unusedSimpArgs false
set_option maxHeartbeats 8000000
namespace Go.Proofs.YtipghibmgfhmpaaGreatDoor
open Lf Go
attribute [local irreducible] PureOp EffOp Ev RG W Then InBlock Lf.Fin nth App InitE Pick SubE EvL EvD EvP EvR ResL Lf.Lex SubR SubBR FinO FinM ResM ResD FinS val pw digs trimL
section
abbrev fB (s : Int) (l : List Int) (s' : Int) (l' : List Int) : PV := .agg [.int .i64 s, .sl (l.map Lf.encI), .int .i64 s', .sl (l'.map Lf.encI)]
abbrev zF2 (p q : Int) : PV := fB (sgn p) (digs (mag p)) (sgn q) (digs (mag q))
abbrev zF (r : Rat) : PV := zF2 r.num r.den
abbrev zF0 : PV := fB 0 [] 0 []
theorem zeroSubF : PSub (.agg [.int .i64 0, .slnil, .int .i64 0, .slnil]) zF0 := ⟨.refl _, .nil, .refl _, .nil, trivial⟩
def okF (r : Rat) : Prop := okZ r.num ∧ okZ r.den
theorem den_pos (r : Rat) : (0 : Int) < r.den := by have := r.den_nz; omega
theorem den_ne (r : Rat) : (r.den : Int) ≠ 0 := by have := r.den_nz; omega
theorem quo_pos' {x g : Int} (h : 0 < g) : quoZ x g = x / g := if_pos h
theorem gcd_pos {x y : Int} (hy : y ≠ 0) : 0 < gcdZ x y := by
  unfold gcdZ
  have : Int.gcd x y ≠ 0 := fun h => hy (Int.gcd_eq_zero_iff.1 h).2
  omega
theorem divInt_pos {x y : Int} (hy : 0 < y) : (Rat.divInt x y).num = quoZ x (gcdZ x y) ∧ ((Rat.divInt x y).den : Int) = quoZ y (gcdZ x y) := by
  have hg := gcd_pos (x := x) (show y ≠ 0 by omega)
  rw [quo_pos' hg, quo_pos' hg, Rat.num_divInt, Rat.den_divInt, if_neg (by omega), Int.sign_eq_one_of_pos hy, Int.one_mul, Int.gcd_comm]
  refine ⟨rfl, ?_⟩
  unfold gcdZ
  rw [Int.natCast_ediv]
  congr 1
  omega
theorem divInt_flip (x y : Int) : Rat.divInt (-x) (-y) = Rat.divInt x y := by
  by_cases hy : y = 0
  · subst hy
    rw [Int.neg_zero, Rat.divInt_zero, Rat.divInt_zero]
  · have := Rat.divInt_mul_left (n := x) (d := y) (a := -1) (by decide)
    rw [← this]
    congr 1 <;> omega
theorem num_den_gcd (r : Rat) : gcdZ r.num r.den = 1 := by
  have := r.reduced
  unfold gcdZ
  exact congrArg (fun n : Nat => (n : Int)) this
theorem rat_of {x y : Int} (hy : 0 < y) (hg : gcdZ x y = 1) : (Rat.divInt x y).num = x ∧ ((Rat.divInt x y).den : Int) = y := by
  obtain ⟨h1, h2⟩ := divInt_pos (x := x) hy
  rw [hg] at h1 h2
  rw [h1, h2, quo_pos' (by decide), quo_pos' (by decide)]
  omega
theorem rat_add (a b : Rat) : a + b = Rat.divInt (a.num * b.den + b.num * a.den) (a.den * b.den) := by
  have := Rat.divInt_add_divInt a.num b.num (d₁ := a.den) (d₂ := b.den) (den_ne a) (den_ne b)
  rwa [Rat.num_divInt_den, Rat.num_divInt_den] at this
theorem rat_mul (a b : Rat) : a * b = Rat.divInt (a.num * b.num) (a.den * b.den) := by
  have := Rat.divInt_mul_divInt a.num b.num (d₁ := a.den) (d₂ := b.den)
  rwa [Rat.num_divInt_den, Rat.num_divInt_den] at this
theorem rat_div (a b : Rat) (h : b.num ≠ 0) : a / b = Rat.divInt (a.num * b.den) (a.den * b.num) := by
  rw [Rat.div_def, Rat.inv_def]
  have := Rat.divInt_mul_divInt a.num b.den (d₁ := a.den) (d₂ := b.num)
  rwa [Rat.num_divInt_den] at this
theorem quo_le {x g : Int} (hg : 0 < g) : mag (quoZ x g) ≤ mag x := by
  rw [quo_pos' hg]
  have h1 := sgn_cases x
  have h2 := sgn_cases (x / g)
  have h3 : x = g * (x / g) + x % g := (Int.mul_ediv_add_emod x g).symm
  have h4 := Int.emod_nonneg x (show g ≠ 0 by omega)
  have h5 := Int.emod_lt_of_pos x hg
  by_cases hx : 0 ≤ x
  · have := Int.ediv_nonneg hx (show 0 ≤ g by omega)
    have := Int.ediv_le_self g hx
    omega
  · have h6 : x / g < 0 := Int.ediv_neg_of_neg_of_pos (by omega) hg
    have h7 : x ≤ x / g := by
      rw [Int.le_ediv_iff_mul_le hg]
      have := Int.mul_le_mul_of_nonneg_left (show 1 ≤ g by omega) (show 0 ≤ -x by omega)
      have e : x * g = -(-x * g) := by grind
      omega
    omega
/-- what a fraction of two numbers is not greater than -/
theorem divInt_le {x y : Int} (hy : y ≠ 0) : mag (Rat.divInt x y).num ≤ mag x ∧ mag (Rat.divInt x y).den ≤ mag y := by
  by_cases h : 0 < y
  · obtain ⟨h1, h2⟩ := divInt_pos (x := x) h
    have hg := gcd_pos (x := x) hy
    rw [h1, h2]
    exact ⟨quo_le hg, quo_le hg⟩
  · obtain ⟨h1, h2⟩ := divInt_pos (x := -x) (y := -y) (by omega)
    rw [divInt_flip] at h1 h2
    have hg := gcd_pos (x := -x) (y := -y) (by omega)
    rw [h1, h2]
    have e1 : mag (-x) = mag x := by have := sgn_cases x; have := sgn_cases (-x); omega
    have e2 : mag (-y) = mag y := by have := sgn_cases y; have := sgn_cases (-y); omega
    have := quo_le (x := -x) hg
    have := quo_le (x := -y) hg
    omega
theorem okF_of {x y : Int} (hx : okZ x) (hy : okZ y) (h0 : y ≠ 0) : okF (Rat.divInt x y) := by
  obtain ⟨h1, h2⟩ := divInt_le (x := x) h0
  unfold okF okZ at *
  omega
theorem sgn0 : sgn 0 = 0 := rfl
attribute [local irreducible] sgn mag gcdZ quoZ remZ txtZ readF fullZ fullE
def rightFB (s : Int) (l : List Int) (s' : Int) (l' : List Int) : Bool := rightB s l && rightB s' l' && decide (s' = 1) && decide (gcdZ (s * val l) (val l') = 1)
theorem one_ok (x : Int) (hx : okZ x) : ACalls Tryz.prog 57 [zB x] (.pv (cB (decide (x = 1)))) := by
  have h1 := intZ_ok x hx
  by_cases hi : i64B x
  · rw [show intV x = x from if_pos hi, decide_eq_true hi] at h1
    refine ACalls.of_W (qs := [cB (decide (x = 1))]) [2] 15 Tryz.func57 (by kernel_rfl) rfl rfl rfl fun G => ?_
    refine W.initA (hw := ?_)
    repeat' (first | ((first | apply U_ | (apply Ug_; exact rfl; exact rfl) | (apply Ugq_; exact rfl; exact rfl)); (first | exact QX.Move TYok | exact QX.Asg TYok | exact QX.Ld TYok | exact QX.Bin TYok | exact QX.Pick TYok | exact QX.Ext TYok | (apply Q_calld (h1); exact EvD.auto)); exact rfl) | refine SX.Box TYok (h := ?_) | apply RG.nil | apply Lex.nil | apply Then.n | apply Then.r | apply Then.x | apply InBlock.n | apply InBlock.r | apply InBlock.hit | (apply InBlock.miss; exact rfl) | apply W.seq | apply W.region | apply W.block | apply W.skip | apply W.ret | apply W.exit | (apply S_isnil TYok; exact rfl; exact rfl; exact rfl; exact Ev.auto; intro bn hnil) | (apply RG.gT; exact rfl; exact rfl; (first | assumption | decide)) | (apply RG.gF; exact rfl; exact rfl; (first | assumption | decide | (rw [ne_eq, Bool.not_eq_true]; assumption) | (rw [ne_eq, Bool.not_eq_false]; assumption)); exact rfl) | (refine W.condA (ht := fun hb => ?_) (hf := fun hb => ?_) <;> (try simp at hb) <;> (try (exfalso; omega))))
    all_goals exact Fin.ret ResL.auto
  · rw [show intV x = 0 from if_neg hi, decide_eq_false hi] at h1
    have e : ¬ x = 1 := fun h => hi (by unfold i64B; omega)
    rw [decide_eq_false e]
    refine ACalls.of_W (qs := [cB false]) [2] 15 Tryz.func57 (by kernel_rfl) rfl rfl rfl fun G => ?_
    refine W.initA (hw := ?_)
    repeat' (first | ((first | apply U_ | (apply Ug_; exact rfl; exact rfl) | (apply Ugq_; exact rfl; exact rfl)); (first | exact QX.Move TYok | exact QX.Asg TYok | exact QX.Ld TYok | exact QX.Bin TYok | exact QX.Pick TYok | exact QX.Ext TYok | (apply Q_calld (h1); exact EvD.auto)); exact rfl) | refine SX.Box TYok (h := ?_) | apply RG.nil | apply Lex.nil | apply Then.n | apply Then.r | apply Then.x | apply InBlock.n | apply InBlock.r | apply InBlock.hit | (apply InBlock.miss; exact rfl) | apply W.seq | apply W.region | apply W.block | apply W.skip | apply W.ret | apply W.exit | (apply S_isnil TYok; exact rfl; exact rfl; exact rfl; exact Ev.auto; intro bn hnil) | (apply RG.gT; exact rfl; exact rfl; (first | assumption | decide)) | (apply RG.gF; exact rfl; exact rfl; (first | assumption | decide | (rw [ne_eq, Bool.not_eq_true]; assumption) | (rw [ne_eq, Bool.not_eq_false]; assumption)); exact rfl) | (refine W.condA (ht := fun hb => ?_) (hf := fun hb => ?_) <;> (try simp at hb) <;> (try (exfalso; omega))))
    all_goals exact Fin.ret ResL.auto
theorem fright_ok (s : Int) (l : List Int) (s' : Int) (l' : List Int) (hl : l.length ≤ 9223372036854775807) (hl' : l'.length ≤ 9223372036854775807) : ACalls Tryz.prog 25 [fB s l s' l'] (.pv (cB (rightFB s l s' l'))) := by
  have r1 := rightL_ok s l hl
  have r2 := rightL_ok s' l' hl'
  by_cases hw : (rightB s l = true ∧ rightB s' l' = true) ∧ s' = 1
  case neg =>
    have e : rightFB s l s' l' = false := by
      unfold rightFB
      cases h1 : rightB s l <;> cases h2 : rightB s' l' <;> simp_all
    rw [e]
    generalize rightB s l = b1 at r1 hw
    generalize rightB s' l' = b2 at r2 hw
    refine ACalls.of_W (qs := [cB false]) [2] 35 Tryz.func25 (by kernel_rfl) rfl rfl rfl fun G => ?_
    refine W.initA (hw := ?_)
    repeat' (first | ((first | apply U_ | (apply Ug_; exact rfl; exact rfl) | (apply Ugq_; exact rfl; exact rfl)); (first | exact QX.Move TYok | exact QX.Asg TYok | exact QX.Fld TYok | exact QX.Ld TYok | exact QX.Bin TYok | exact QX.Pick TYok | exact QX.Un TYok | exact QX.Ext TYok | (apply Q_calld (r1); exact EvD.auto) | (apply Q_calld (r2); exact EvD.auto)); exact rfl) | refine SX.Alloc TYok (h := ?_) | refine SX.Store TYok (h := ?_) | refine SX.Box TYok (h := ?_) | apply RG.nil | apply Lex.nil | apply Then.n | apply Then.r | apply Then.x | apply InBlock.n | apply InBlock.r | apply InBlock.hit | (apply InBlock.miss; exact rfl) | apply W.seq | apply W.region | apply W.block | apply W.skip | apply W.ret | apply W.exit | (apply S_isnil TYok; exact rfl; exact rfl; exact rfl; exact Ev.auto; intro bn hnil) | (apply RG.gT; exact rfl; exact rfl; (first | assumption | decide)) | (apply RG.gF; exact rfl; exact rfl; (first | assumption | decide | (rw [ne_eq, Bool.not_eq_true]; assumption) | (rw [ne_eq, Bool.not_eq_false]; assumption)); exact rfl) | (refine W.condA (ht := fun hb => ?_) (hf := fun hb => ?_) <;> (try simp at hb) <;> (try (exfalso; first | exact hw hb | omega))))
    all_goals exact Fin.ret ResL.auto
  obtain ⟨⟨q1, q2⟩, h1⟩ := hw
  have e : rightFB s l s' l' = decide (gcdZ (s * val l) (val l') = 1) := by unfold rightFB; rw [q1, q2, decide_eq_true h1]; simp
  rw [e]
  rw [q1] at r1
  rw [q2] at r2
  obtain ⟨x, ox, rfl, rfl⟩ := right_num q1
  obtain ⟨y, oy, rfl, rfl⟩ := right_num q2
  have cy := sgn_cases y
  have ey : val (digs (mag y)) = y := by rw [val_mag]; omega
  have ex : sgn x * val (digs (mag x)) = x := by rw [val_mag, sgn_mag]
  rw [ex, ey]
  have g1 := gcdZ_ok x y ox oy
  have o1 := one_ok _ (gcd_lt ox oy)
  generalize gcdZ x y = g at *
  refine ACalls.of_W (qs := [cB (decide (g = 1))]) [2] 35 Tryz.func25 (by kernel_rfl) rfl rfl rfl fun G => ?_
  refine W.initA (hw := ?_)
  repeat' (first | ((first | apply U_ | (apply Ug_; exact rfl; exact rfl) | (apply Ugq_; exact rfl; exact rfl)); (first | exact QX.Move TYok | exact QX.Asg TYok | exact QX.Fld TYok | exact QX.Ld TYok | exact QX.Bin TYok | exact QX.Pick TYok | exact QX.Un TYok | exact QX.Ext TYok | (apply Q_calld (r1); exact EvD.auto) | (apply Q_calld (r2); exact EvD.auto) | (apply Q_calld (g1); exact EvD.auto) | (apply Q_calld (o1); exact EvD.auto)); exact rfl) | refine SX.Alloc TYok (h := ?_) | refine SX.Store TYok (h := ?_) | refine SX.Box TYok (h := ?_) | apply RG.nil | apply Lex.nil | apply Then.n | apply Then.r | apply Then.x | apply InBlock.n | apply InBlock.r | apply InBlock.hit | (apply InBlock.miss; exact rfl) | apply W.seq | apply W.region | apply W.block | apply W.skip | apply W.ret | apply W.exit | (apply S_isnil TYok; exact rfl; exact rfl; exact rfl; exact Ev.auto; intro bn hnil) | (apply RG.gT; exact rfl; exact rfl; (first | assumption | decide)) | (apply RG.gF; exact rfl; exact rfl; (first | assumption | decide | (rw [ne_eq, Bool.not_eq_true]; assumption) | (rw [ne_eq, Bool.not_eq_false]; assumption)); exact rfl) | (refine W.condA (ht := fun hb => ?_) (hf := fun hb => ?_) <;> (try simp at hb) <;> (try (exfalso; omega))))
  all_goals exact Fin.ret ResL.auto
theorem fright_yes (r : Rat) (h : okF r) : ACalls Tryz.prog 25 [zF r] (.pv (cB true)) := by
  have hp := den_pos r
  have := fright_ok (sgn r.num) (digs (mag r.num)) (sgn r.den) (digs (mag r.den)) (by have := num_len h.1; omega) (by have := num_len h.2; omega)
  have e : rightFB (sgn r.num) (digs (mag r.num)) (sgn r.den) (digs (mag r.den)) = true := by
    unfold rightFB
    have c := sgn_cases r.den
    rw [num_right h.1, num_right h.2, decide_eq_true (show sgn r.den = 1 by omega), val_mag, val_mag, sgn_mag, show mag r.den = r.den by omega, num_den_gcd]; rfl
  rwa [e] at this
theorem frac_of {s s' : Int} {l l' : List Int} (h : rightFB s l s' l' = true) : ∃ r : Rat, okF r ∧ s = sgn r.num ∧ l = digs (mag r.num) ∧ s' = sgn r.den ∧ l' = digs (mag r.den) := by
  unfold rightFB at h
  simp only [Bool.and_eq_true, decide_eq_true_iff] at h
  obtain ⟨⟨⟨q1, q2⟩, h1⟩, hg⟩ := h
  obtain ⟨x, ox, rfl, rfl⟩ := right_num q1
  obtain ⟨y, oy, rfl, rfl⟩ := right_num q2
  have cy := sgn_cases y
  rw [val_mag, val_mag, sgn_mag, show mag y = y by omega] at hg
  obtain ⟨h3, h4⟩ := rat_of (x := x) (y := y) (by omega) hg
  exact ⟨Rat.divInt x y, ⟨by rw [h3]; exact ox, by rw [h4]; exact oy⟩, by rw [h3], by rw [h3], by rw [h4], by rw [h4]⟩
theorem new_zero (x : Int) (hx : okZ x) : ACalls Tryz.prog 23 [zB x, zB 0] (.tup [zF0, cI 15]) := by
  have r1 := right_yes hx
  have r2 := right_yes okZ.zero
  have e0 := sgn0
  refine ACalls.of_M TYok (qs := [zF0, cI 15]) [.cell 4 26, .tmp 5] 60 Tryz.func23 (by kernel_rfl) rfl rfl rfl fun G => ?_
  refine W.initA (hw := ?_)
  repeat' (first | ((first | apply U_ | (apply Ug_; exact rfl; exact rfl) | (apply Ugq_; exact rfl; exact rfl) | apply Lex.u | (apply Lex.g; exact rfl; exact rfl) | (apply Lex.gq; exact rfl; exact rfl)); (first | exact QX.Move TYok | exact QX.Asg TYok | exact QX.Fld TYok | exact QX.Ld TYok | exact QX.Bin TYok | exact QX.Pick TYok | exact QX.Un TYok | exact QX.Ext TYok | exact QX.Build TYok | (apply Q_calld (r1); exact EvD.auto) | (apply Q_calld (r2); exact EvD.auto)); exact rfl) | refine SX.Alloc TYok (h := ?_) | refine SX.Store TYok (h := ?_) | refine SX.Box TYok (h := ?_) | apply RG.nil | apply Lex.nil | apply Then.n | apply Then.r | apply Then.x | apply InBlock.n | apply InBlock.r | apply InBlock.hit | (apply InBlock.miss; exact rfl) | apply W.seq | apply W.region | apply W.block | apply W.skip | apply W.ret | apply W.exit | (apply S_isnil TYok; exact rfl; exact rfl; exact rfl; exact Ev.auto; intro bn hnil) | (apply RG.gT; exact rfl; exact rfl; (first | assumption | decide)) | (apply RG.gF; exact rfl; exact rfl; (first | assumption | decide | (rw [ne_eq, Bool.not_eq_true]; assumption) | (rw [ne_eq, Bool.not_eq_false]; assumption)); exact rfl) | (apply W.draw2 (id := 6) [0, 1, 0, 7, 15, 31] [[2], [33], [3], [35]] 4 [(33, 4), (34, 8589934592), (35, 8), (36, 34359738368)] mixed (by kernel_rfl) rfl rfl) | (refine W.condA (ht := fun hb => ?_) (hf := fun hb => ?_) <;> (try simp at hb) <;> (try (exfalso; omega))))
  all_goals exact FinM.ret (ResM.cell rfl rfl rfl rfl zeroSubF (ResM.tmp rfl rfl PSub.rfl' ResM.nil))
theorem new_pos (x y : Int) (hx : okZ x) (hy : okZ y) (h0 : 0 < y) : ACalls Tryz.prog 23 [zB x, zB y] (.tup [zF2 (quoZ x (gcdZ x y)) (quoZ y (gcdZ x y)), cI 0]) := by
  have r1 := right_yes hx
  have r2 := right_yes hy
  have cy := sgn_cases y
  have hg := gcd_pos (x := x) (show y ≠ 0 by omega)
  have og := gcd_lt hx hy
  have g1 := gcdZ_ok x y hx hy
  have d1 := divZ_ok x (gcdZ x y) hx og (by omega)
  have d2 := divZ_ok y (gcdZ x y) hy og (by omega)
  generalize quoZ x (gcdZ x y) = a at *
  generalize quoZ y (gcdZ x y) = b at *
  generalize gcdZ x y = g at *
  refine ACalls.of_M TYok (qs := [zF2 a b, cI 0]) [.cell 4 26, .tmp 5] 60 Tryz.func23 (by kernel_rfl) rfl rfl rfl fun G => ?_
  refine W.initA (hw := ?_)
  repeat' (first | ((first | apply U_ | (apply Ug_; exact rfl; exact rfl) | (apply Ugq_; exact rfl; exact rfl) | apply Lex.u | (apply Lex.g; exact rfl; exact rfl) | (apply Lex.gq; exact rfl; exact rfl)); (first | exact QX.Move TYok | exact QX.Asg TYok | exact QX.Fld TYok | exact QX.Ld TYok | exact QX.Bin TYok | exact QX.Pick TYok | exact QX.Un TYok | exact QX.Ext TYok | exact QX.Build TYok | (apply Q_calld (r1); exact EvD.auto) | (apply Q_calld (r2); exact EvD.auto) | (apply Q_calld (g1); exact EvD.auto) | (apply Q_calld (d1); exact EvD.auto) | (apply Q_calld (d2); exact EvD.auto)); exact rfl) | refine SX.Alloc TYok (h := ?_) | refine SX.Store TYok (h := ?_) | refine SX.Box TYok (h := ?_) | apply RG.nil | apply Lex.nil | apply Then.n | apply Then.r | apply Then.x | apply InBlock.n | apply InBlock.r | apply InBlock.hit | (apply InBlock.miss; exact rfl) | apply W.seq | apply W.region | apply W.block | apply W.skip | apply W.ret | apply W.exit | (apply S_isnil TYok; exact rfl; exact rfl; exact rfl; exact Ev.auto; intro bn hnil) | (apply RG.gT; exact rfl; exact rfl; (first | assumption | decide)) | (apply RG.gF; exact rfl; exact rfl; (first | assumption | decide | (rw [ne_eq, Bool.not_eq_true]; assumption) | (rw [ne_eq, Bool.not_eq_false]; assumption)); exact rfl) | (apply W.draw2 (id := 6) [0, 1, 0, 7, 15, 31] [[2], [33], [3], [35]] 4 [(33, 4), (34, 8589934592), (35, 8), (36, 34359738368)] mixed (by kernel_rfl) rfl rfl) | (refine W.condA (ht := fun hb => ?_) (hf := fun hb => ?_) <;> (try simp at hb) <;> (try (exfalso; omega))))
  all_goals exact FinM.ret ResM.auto
end
section
attribute [local irreducible] sgn mag gcdZ quoZ remZ txtZ readF fullZ fullE
theorem full_no {z : Int} (h : ¬ okZ z) : fullZ z = 0 ∧ fullE z = 6 := by
  unfold fullZ fullE
  exact ⟨if_neg h, if_neg h⟩
theorem new_neg (x y : Int) (hx : okZ x) (hy : okZ y) (h0 : y < 0) : ACalls Tryz.prog 23 [zB x, zB y] (.tup [zF2 (quoZ (-x) (gcdZ (-x) (-y))) (quoZ (-y) (gcdZ (-x) (-y))), cI 0]) := by
  have r1 := right_yes hx
  have r2 := right_yes hy
  have cy := sgn_cases y
  have n1 := neg_ok x hx
  have n2 := neg_ok y hy
  have ox := okZ_neg hx
  have oy := okZ_neg hy
  have hg := gcd_pos (x := -x) (show -y ≠ 0 by omega)
  have og := gcd_lt ox oy
  have g1 := gcdZ_ok (-x) (-y) ox oy
  have d1 := divZ_ok (-x) (gcdZ (-x) (-y)) ox og (by omega)
  have d2 := divZ_ok (-y) (gcdZ (-x) (-y)) oy og (by omega)
  generalize quoZ (-x) (gcdZ (-x) (-y)) = a at *
  generalize quoZ (-y) (gcdZ (-x) (-y)) = b at *
  generalize gcdZ (-x) (-y) = g at *
  refine ACalls.of_M TYok (qs := [zF2 a b, cI 0]) [.cell 4 26, .tmp 5] 60 Tryz.func23 (by kernel_rfl) rfl rfl rfl fun G => ?_
  refine W.initA (hw := ?_)
  repeat' (first | ((first | apply U_ | (apply Ug_; exact rfl; exact rfl) | (apply Ugq_; exact rfl; exact rfl) | apply Lex.u | (apply Lex.g; exact rfl; exact rfl) | (apply Lex.gq; exact rfl; exact rfl)); (first | exact QX.Move TYok | exact QX.Asg TYok | exact QX.Fld TYok | exact QX.Ld TYok | exact QX.Bin TYok | exact QX.Pick TYok | exact QX.Un TYok | exact QX.Ext TYok | exact QX.Build TYok | (apply Q_calld (r1); exact EvD.auto) | (apply Q_calld (r2); exact EvD.auto) | (apply Q_calld (n1); exact EvD.auto) | (apply Q_calld (n2); exact EvD.auto) | (apply Q_calld (g1); exact EvD.auto) | (apply Q_calld (d1); exact EvD.auto) | (apply Q_calld (d2); exact EvD.auto)); exact rfl) | refine SX.Alloc TYok (h := ?_) | refine SX.Store TYok (h := ?_) | refine SX.Box TYok (h := ?_) | apply RG.nil | apply Lex.nil | apply Then.n | apply Then.r | apply Then.x | apply InBlock.n | apply InBlock.r | apply InBlock.hit | (apply InBlock.miss; exact rfl) | apply W.seq | apply W.region | apply W.block | apply W.skip | apply W.ret | apply W.exit | (apply S_isnil TYok; exact rfl; exact rfl; exact rfl; exact Ev.auto; intro bn hnil) | (apply RG.gT; exact rfl; exact rfl; (first | assumption | decide)) | (apply RG.gF; exact rfl; exact rfl; (first | assumption | decide | (rw [ne_eq, Bool.not_eq_true]; assumption) | (rw [ne_eq, Bool.not_eq_false]; assumption)); exact rfl) | (apply W.draw2 (id := 6) [0, 1, 0, 7, 15, 31] [[2], [33], [3], [35]] 4 [(33, 4), (34, 8589934592), (35, 8), (36, 34359738368)] mixed (by kernel_rfl) rfl rfl) | (refine W.condA (ht := fun hb => ?_) (hf := fun hb => ?_) <;> (try simp at hb) <;> (try (exfalso; omega))))
  all_goals exact FinM.ret ResM.auto
theorem new_ok (x y : Int) (hx : okZ x) (hy : okZ y) (h0 : y ≠ 0) : ACalls Tryz.prog 23 [zB x, zB y] (.tup [zF (Rat.divInt x y), cI 0]) := by
  by_cases h : 0 < y
  · obtain ⟨e1, e2⟩ := divInt_pos (x := x) h
    have := new_pos x y hx hy h
    rwa [← e1, ← e2] at this
  · obtain ⟨e1, e2⟩ := divInt_pos (x := -x) (y := -y) (by omega)
    have := new_neg x y hx hy (by omega)
    rw [← e1, ← e2, divInt_flip] at this
    exact this
def sumOk (a b c d : Int) : Prop := okZ (a * b) ∧ okZ (c * d) ∧ okZ (a * b + c * d)
theorem sum_yes (a b c d : Int) (ha : okZ a) (hb : okZ b) (hc : okZ c) (hd : okZ d) (h : sumOk a b c d) : ACalls Tryz.prog 40 [zB a, zB b, zB c, zB d] (.tup [zB (a * b + c * d), cI 0]) := by
  obtain ⟨h1, h2, h3⟩ := h
  have m1 := mulZ_ok a b ha hb
  rw [(full_yes h1).1, (full_yes h1).2] at m1
  have m2 := mulZ_ok c d hc hd
  rw [(full_yes h2).1, (full_yes h2).2] at m2
  have a1 := addZ_ok (a * b) (c * d) h1 h2
  rw [(full_yes h3).1, (full_yes h3).2] at a1
  refine ACalls.of_M TYok (qs := [zB (a * b + c * d), cI 0]) [.cell 8 24, .tmp 9] 38 Tryz.func40 (by kernel_rfl) rfl rfl rfl fun G => ?_
  refine W.initA (hw := ?_)
  repeat' (first | ((first | apply U_); (first | exact QX.Move TYok | exact QX.Asg TYok | exact QX.Ld TYok | exact QX.Bin TYok | exact QX.Ext TYok | exact QX.Build TYok | (apply Q_calld (m1); exact EvD.auto) | (apply Q_calld (m2); exact EvD.auto) | (apply Q_calld (a1); exact EvD.auto)); exact rfl) | refine SX.Alloc TYok (h := ?_) | refine SX.Store TYok (h := ?_) | refine SX.Box TYok (h := ?_) | apply RG.nil | apply Lex.nil | apply Then.n | apply Then.r | apply Then.x | apply InBlock.n | apply InBlock.r | apply InBlock.hit | (apply InBlock.miss; exact rfl) | apply W.seq | apply W.region | apply W.block | apply W.skip | apply W.ret | apply W.exit | (refine W.condA (ht := fun hb => ?_) (hf := fun hb => ?_) <;> (try simp at hb) <;> (try (exfalso; omega))))
  all_goals exact FinM.ret ResM.auto
theorem sum_no (a b c d : Int) (ha : okZ a) (hb : okZ b) (hc : okZ c) (hd : okZ d) (h : ¬ sumOk a b c d) : ACalls Tryz.prog 40 [zB a, zB b, zB c, zB d] (.tup [zB 0, cI 6]) := by
  have m1 := mulZ_ok a b ha hb
  have m2 := mulZ_ok c d hc hd
  by_cases h1 : okZ (a * b)
  · rw [(full_yes h1).1, (full_yes h1).2] at m1
    by_cases h2 : okZ (c * d)
    · rw [(full_yes h2).1, (full_yes h2).2] at m2
      have h3 : ¬ okZ (a * b + c * d) := fun q => h ⟨h1, h2, q⟩
      have a1 := addZ_ok (a * b) (c * d) h1 h2
      rw [(full_no h3).1, (full_no h3).2] at a1
      refine ACalls.of_M TYok (qs := [zB 0, cI 6]) [.cell 8 24, .tmp 9] 38 Tryz.func40 (by kernel_rfl) rfl rfl rfl fun G => ?_
      refine W.initA (hw := ?_)
      repeat' (first | ((first | apply U_); (first | exact QX.Move TYok | exact QX.Asg TYok | exact QX.Ld TYok | exact QX.Bin TYok | exact QX.Ext TYok | exact QX.Build TYok | (apply Q_calld (m1); exact EvD.auto) | (apply Q_calld (m2); exact EvD.auto) | (apply Q_calld (a1); exact EvD.auto)); exact rfl) | refine SX.Alloc TYok (h := ?_) | refine SX.Store TYok (h := ?_) | refine SX.Box TYok (h := ?_) | apply RG.nil | apply Lex.nil | apply Then.n | apply Then.r | apply Then.x | apply InBlock.n | apply InBlock.r | apply InBlock.hit | (apply InBlock.miss; exact rfl) | apply W.seq | apply W.region | apply W.block | apply W.skip | apply W.ret | apply W.exit | (refine W.condA (ht := fun hb => ?_) (hf := fun hb => ?_) <;> (try simp at hb) <;> (try (exfalso; omega))))
      all_goals exact FinM.ret ResM.auto
    · rw [(full_no h2).1, (full_no h2).2] at m2
      refine ACalls.of_M TYok (qs := [zB 0, cI 6]) [.cell 8 24, .tmp 9] 38 Tryz.func40 (by kernel_rfl) rfl rfl rfl fun G => ?_
      refine W.initA (hw := ?_)
      repeat' (first | ((first | apply U_); (first | exact QX.Move TYok | exact QX.Asg TYok | exact QX.Ld TYok | exact QX.Bin TYok | exact QX.Ext TYok | exact QX.Build TYok | (apply Q_calld (m1); exact EvD.auto) | (apply Q_calld (m2); exact EvD.auto)); exact rfl) | refine SX.Alloc TYok (h := ?_) | refine SX.Store TYok (h := ?_) | refine SX.Box TYok (h := ?_) | apply RG.nil | apply Lex.nil | apply Then.n | apply Then.r | apply Then.x | apply InBlock.n | apply InBlock.r | apply InBlock.hit | (apply InBlock.miss; exact rfl) | apply W.seq | apply W.region | apply W.block | apply W.skip | apply W.ret | apply W.exit | (refine W.condA (ht := fun hb => ?_) (hf := fun hb => ?_) <;> (try simp at hb) <;> (try (exfalso; omega))))
      all_goals exact FinM.ret (ResM.cell rfl rfl rfl rfl zeroSubZ (ResM.tmp rfl rfl PSub.rfl' ResM.nil))
  · rw [(full_no h1).1, (full_no h1).2] at m1
    refine ACalls.of_M TYok (qs := [zB 0, cI 6]) [.cell 8 24, .tmp 9] 38 Tryz.func40 (by kernel_rfl) rfl rfl rfl fun G => ?_
    refine W.initA (hw := ?_)
    repeat' (first | ((first | apply U_); (first | exact QX.Move TYok | exact QX.Asg TYok | exact QX.Ld TYok | exact QX.Bin TYok | exact QX.Ext TYok | exact QX.Build TYok | (apply Q_calld (m1); exact EvD.auto)); exact rfl) | refine SX.Alloc TYok (h := ?_) | refine SX.Store TYok (h := ?_) | refine SX.Box TYok (h := ?_) | apply RG.nil | apply Lex.nil | apply Then.n | apply Then.r | apply Then.x | apply InBlock.n | apply InBlock.r | apply InBlock.hit | (apply InBlock.miss; exact rfl) | apply W.seq | apply W.region | apply W.block | apply W.skip | apply W.ret | apply W.exit | (refine W.condA (ht := fun hb => ?_) (hf := fun hb => ?_) <;> (try simp at hb) <;> (try (exfalso; omega))))
    all_goals exact FinM.ret (ResM.cell rfl rfl rfl rfl zeroSubZ (ResM.tmp rfl rfl PSub.rfl' ResM.nil))
theorem quot_yes (p q : Int) (hp : okZ p) (hq : okZ q) (h0 : q ≠ 0) : ACalls Tryz.prog 41 [zB p, cI 0, zB q, cI 0] (.tup [zF (Rat.divInt p q), cI 0]) := by
  have n1 := new_ok p q hp hq h0
  generalize Rat.divInt p q = r at *
  refine ACalls.of_M TYok (qs := [zF r, cI 0]) [.cell 8 26, .tmp 9] 22 Tryz.func41 (by kernel_rfl) rfl rfl rfl fun G => ?_
  refine W.initA (hw := ?_)
  repeat' (first | ((first | apply U_ | (apply Ug_; exact rfl; exact rfl) | (apply Ugq_; exact rfl; exact rfl)); (first | exact QX.Move TYok | exact QX.Asg TYok | exact QX.Ld TYok | exact QX.Bin TYok | exact QX.Pick TYok | exact QX.Ext TYok | exact QX.Build TYok | (apply Q_calld (n1); exact EvD.auto)); exact rfl) | refine SX.Alloc TYok (h := ?_) | refine SX.Store TYok (h := ?_) | refine SX.Box TYok (h := ?_) | apply RG.nil | apply Lex.nil | apply Then.n | apply Then.r | apply Then.x | apply InBlock.n | apply InBlock.r | apply InBlock.hit | (apply InBlock.miss; exact rfl) | apply W.seq | apply W.region | apply W.block | apply W.skip | apply W.ret | apply W.exit | (apply RG.gT; exact rfl; exact rfl; (first | assumption | decide)) | (apply RG.gF; exact rfl; exact rfl; (first | assumption | decide | (rw [ne_eq, Bool.not_eq_true]; assumption) | (rw [ne_eq, Bool.not_eq_false]; assumption)); exact rfl) | (refine W.condA (ht := fun hb => ?_) (hf := fun hb => ?_) <;> (try simp at hb) <;> (try (exfalso; omega))))
  all_goals exact FinM.ret ResM.auto
theorem quot_no (p e q f : Int) (h : e ≠ 0 ∨ f ≠ 0) : ACalls Tryz.prog 41 [zB p, cI e, zB q, cI f] (.tup [zF0, cI 6]) := by
  refine ACalls.of_M TYok (qs := [zF0, cI 6]) [.cell 8 26, .tmp 9] 22 Tryz.func41 (by kernel_rfl) rfl rfl rfl fun G => ?_
  refine W.initA (hw := ?_)
  repeat' (first | ((first | apply U_ | (apply Ug_; exact rfl; exact rfl) | (apply Ugq_; exact rfl; exact rfl)); (first | exact QX.Move TYok | exact QX.Asg TYok | exact QX.Ld TYok | exact QX.Bin TYok | exact QX.Pick TYok | exact QX.Ext TYok | exact QX.Build TYok); exact rfl) | refine SX.Alloc TYok (h := ?_) | refine SX.Store TYok (h := ?_) | refine SX.Box TYok (h := ?_) | apply RG.nil | apply Lex.nil | apply Then.n | apply Then.r | apply Then.x | apply InBlock.n | apply InBlock.r | apply InBlock.hit | (apply InBlock.miss; exact rfl) | apply W.seq | apply W.region | apply W.block | apply W.skip | apply W.ret | apply W.exit | (apply RG.gT; exact rfl; exact rfl; (first | assumption | decide)) | (apply RG.gF; exact rfl; exact rfl; (first | assumption | decide | (rw [ne_eq, Bool.not_eq_true]; assumption) | (rw [ne_eq, Bool.not_eq_false]; assumption)); exact rfl) | (refine W.condA (ht := fun hb => ?_) (hf := fun hb => ?_) <;> (try simp at hb) <;> (try (exfalso; omega))))
  all_goals exact FinM.ret (ResM.cell rfl rfl rfl rfl zeroSubF (ResM.tmp rfl rfl PSub.rfl' ResM.nil))
def addOk (a b : Rat) : Prop := sumOk a.num b.den b.num a.den ∧ okZ (a.den * b.den)
theorem mul_ne {x y : Int} (hx : x ≠ 0) (hy : y ≠ 0) : x * y ≠ 0 := fun h => (Int.mul_eq_zero.1 h).elim hx hy
theorem add_yes (a b : Rat) (ha : okF a) (hb : okF b) (h : addOk a b) : ACalls Tryz.prog 10 [zF a, zF b] (.tup [zF (a + b), cI 0]) := by
  obtain ⟨h1, h2⟩ := h
  have r1 := fright_yes a ha
  have r2 := fright_yes b hb
  have s1 := sum_yes a.num b.den b.num a.den ha.1 hb.2 hb.1 ha.2 h1
  have m1 := mulZ_ok a.den b.den ha.2 hb.2
  rw [(full_yes h2).1, (full_yes h2).2] at m1
  have q1 := quot_yes _ _ h1.2.2 h2 (mul_ne (den_ne a) (den_ne b))
  rw [rat_add]
  generalize Rat.divInt (a.num * b.den + b.num * a.den) (a.den * b.den) = r at *
  refine ACalls.of_M TYok (qs := [zF r, cI 0]) [.cell 4 26, .tmp 5] 46 Tryz.func10 (by kernel_rfl) rfl rfl rfl fun G => ?_
  refine W.initA (hw := ?_)
  repeat' (first | ((first | apply U_ | (apply Ug_; exact rfl; exact rfl) | (apply Ugq_; exact rfl; exact rfl)); (first | exact QX.Move TYok | exact QX.Asg TYok | exact QX.Fld TYok | exact QX.Ld TYok | exact QX.Pick TYok | exact QX.Un TYok | exact QX.Ext TYok | exact QX.Build TYok | (apply Q_calld (r1); exact EvD.auto) | (apply Q_calld (r2); exact EvD.auto) | (apply Q_calld (s1); exact EvD.auto) | (apply Q_calld (m1); exact EvD.auto) | (apply Q_calld (q1); exact EvD.auto)); exact rfl) | refine SX.Alloc TYok (h := ?_) | refine SX.Store TYok (h := ?_) | refine SX.Box TYok (h := ?_) | apply RG.nil | apply Lex.nil | apply Then.n | apply Then.r | apply Then.x | apply InBlock.n | apply InBlock.r | apply InBlock.hit | (apply InBlock.miss; exact rfl) | apply W.seq | apply W.region | apply W.block | apply W.skip | apply W.ret | apply W.exit | (apply RG.gT; exact rfl; exact rfl; (first | assumption | decide)) | (apply RG.gF; exact rfl; exact rfl; (first | assumption | decide | (rw [ne_eq, Bool.not_eq_true]; assumption) | (rw [ne_eq, Bool.not_eq_false]; assumption)); exact rfl) | (refine W.condA (ht := fun hb => ?_) (hf := fun hb => ?_) <;> (try simp at hb) <;> (try (exfalso; omega))))
  all_goals exact FinM.ret ResM.auto
theorem add_no (a b : Rat) (ha : okF a) (hb : okF b) (h : ¬ addOk a b) : ACalls Tryz.prog 10 [zF a, zF b] (.tup [zF0, cI 6]) := by
  have r1 := fright_yes a ha
  have r2 := fright_yes b hb
  have m1 := mulZ_ok a.den b.den ha.2 hb.2
  by_cases h1 : sumOk a.num b.den b.num a.den
  · have h2 : ¬ okZ (a.den * b.den) := fun q => h ⟨h1, q⟩
    have s1 := sum_yes a.num b.den b.num a.den ha.1 hb.2 hb.1 ha.2 h1
    rw [(full_no h2).1, (full_no h2).2] at m1
    have q1 := quot_no (a.num * b.den + b.num * a.den) 0 0 6 (.inr (by decide))
    refine ACalls.of_M TYok (qs := [zF0, cI 6]) [.cell 4 26, .tmp 5] 46 Tryz.func10 (by kernel_rfl) rfl rfl rfl fun G => ?_
    refine W.initA (hw := ?_)
    repeat' (first | ((first | apply U_ | (apply Ug_; exact rfl; exact rfl) | (apply Ugq_; exact rfl; exact rfl)); (first | exact QX.Move TYok | exact QX.Asg TYok | exact QX.Fld TYok | exact QX.Ld TYok | exact QX.Pick TYok | exact QX.Un TYok | exact QX.Ext TYok | exact QX.Build TYok | (apply Q_calld (r1); exact EvD.auto) | (apply Q_calld (r2); exact EvD.auto) | (apply Q_calld (s1); exact EvD.auto) | (apply Q_calld (m1); exact EvD.auto) | (apply Q_calld (q1); exact EvD.auto)); exact rfl) | refine SX.Alloc TYok (h := ?_) | refine SX.Store TYok (h := ?_) | refine SX.Box TYok (h := ?_) | apply RG.nil | apply Lex.nil | apply Then.n | apply Then.r | apply Then.x | apply InBlock.n | apply InBlock.r | apply InBlock.hit | (apply InBlock.miss; exact rfl) | apply W.seq | apply W.region | apply W.block | apply W.skip | apply W.ret | apply W.exit | (apply RG.gT; exact rfl; exact rfl; (first | assumption | decide)) | (apply RG.gF; exact rfl; exact rfl; (first | assumption | decide | (rw [ne_eq, Bool.not_eq_true]; assumption) | (rw [ne_eq, Bool.not_eq_false]; assumption)); exact rfl) | (refine W.condA (ht := fun hb => ?_) (hf := fun hb => ?_) <;> (try simp at hb) <;> (try (exfalso; omega))))
    all_goals exact FinM.ret ResM.auto
  · have s1 := sum_no a.num b.den b.num a.den ha.1 hb.2 hb.1 ha.2 h1
    have q1 := quot_no 0 6 (fullZ (a.den * b.den)) (fullE (a.den * b.den)) (.inl (by decide))
    generalize fullZ (a.den * b.den) = w at *
    generalize fullE (a.den * b.den) = w2 at *
    refine ACalls.of_M TYok (qs := [zF0, cI 6]) [.cell 4 26, .tmp 5] 46 Tryz.func10 (by kernel_rfl) rfl rfl rfl fun G => ?_
    refine W.initA (hw := ?_)
    repeat' (first | ((first | apply U_ | (apply Ug_; exact rfl; exact rfl) | (apply Ugq_; exact rfl; exact rfl)); (first | exact QX.Move TYok | exact QX.Asg TYok | exact QX.Fld TYok | exact QX.Ld TYok | exact QX.Pick TYok | exact QX.Un TYok | exact QX.Ext TYok | exact QX.Build TYok | (apply Q_calld (r1); exact EvD.auto) | (apply Q_calld (r2); exact EvD.auto) | (apply Q_calld (s1); exact EvD.auto) | (apply Q_calld (m1); exact EvD.auto) | (apply Q_calld (q1); exact EvD.auto)); exact rfl) | refine SX.Alloc TYok (h := ?_) | refine SX.Store TYok (h := ?_) | refine SX.Box TYok (h := ?_) | apply RG.nil | apply Lex.nil | apply Then.n | apply Then.r | apply Then.x | apply InBlock.n | apply InBlock.r | apply InBlock.hit | (apply InBlock.miss; exact rfl) | apply W.seq | apply W.region | apply W.block | apply W.skip | apply W.ret | apply W.exit | (apply RG.gT; exact rfl; exact rfl; (first | assumption | decide)) | (apply RG.gF; exact rfl; exact rfl; (first | assumption | decide | (rw [ne_eq, Bool.not_eq_true]; assumption) | (rw [ne_eq, Bool.not_eq_false]; assumption)); exact rfl) | (refine W.condA (ht := fun hb => ?_) (hf := fun hb => ?_) <;> (try simp at hb) <;> (try (exfalso; omega))))
    all_goals exact FinM.ret ResM.auto
def mulOk (a b : Rat) : Prop := okZ (a.num * b.num) ∧ okZ (a.den * b.den)
theorem fmul_yes (a b : Rat) (ha : okF a) (hb : okF b) (h : mulOk a b) : ACalls Tryz.prog 15 [zF a, zF b] (.tup [zF (a * b), cI 0]) := by
  obtain ⟨h1, h2⟩ := h
  have r1 := fright_yes a ha
  have r2 := fright_yes b hb
  have m1 := mulZ_ok a.num b.num ha.1 hb.1
  rw [(full_yes h1).1, (full_yes h1).2] at m1
  have m2 := mulZ_ok a.den b.den ha.2 hb.2
  rw [(full_yes h2).1, (full_yes h2).2] at m2
  have q1 := quot_yes _ _ h1 h2 (mul_ne (den_ne a) (den_ne b))
  rw [rat_mul]
  generalize Rat.divInt (a.num * b.num) (a.den * b.den) = r at *
  refine ACalls.of_M TYok (qs := [zF r, cI 0]) [.cell 4 26, .tmp 5] 42 Tryz.func15 (by kernel_rfl) rfl rfl rfl fun G => ?_
  refine W.initA (hw := ?_)
  repeat' (first | ((first | apply U_ | (apply Ug_; exact rfl; exact rfl) | (apply Ugq_; exact rfl; exact rfl)); (first | exact QX.Move TYok | exact QX.Asg TYok | exact QX.Fld TYok | exact QX.Ld TYok | exact QX.Pick TYok | exact QX.Un TYok | exact QX.Ext TYok | exact QX.Build TYok | (apply Q_calld (r1); exact EvD.auto) | (apply Q_calld (r2); exact EvD.auto) | (apply Q_calld (m1); exact EvD.auto) | (apply Q_calld (m2); exact EvD.auto) | (apply Q_calld (q1); exact EvD.auto)); exact rfl) | refine SX.Alloc TYok (h := ?_) | refine SX.Store TYok (h := ?_) | refine SX.Box TYok (h := ?_) | apply RG.nil | apply Lex.nil | apply Then.n | apply Then.r | apply Then.x | apply InBlock.n | apply InBlock.r | apply InBlock.hit | (apply InBlock.miss; exact rfl) | apply W.seq | apply W.region | apply W.block | apply W.skip | apply W.ret | apply W.exit | (apply RG.gT; exact rfl; exact rfl; (first | assumption | decide)) | (apply RG.gF; exact rfl; exact rfl; (first | assumption | decide | (rw [ne_eq, Bool.not_eq_true]; assumption) | (rw [ne_eq, Bool.not_eq_false]; assumption)); exact rfl) | (refine W.condA (ht := fun hb => ?_) (hf := fun hb => ?_) <;> (try simp at hb) <;> (try (exfalso; omega))))
  all_goals exact FinM.ret ResM.auto
def divOk (a b : Rat) : Prop := okZ (a.num * b.den) ∧ okZ (a.den * b.num)
theorem fdiv_yes (a b : Rat) (ha : okF a) (hb : okF b) (h0 : b.num ≠ 0) (h : divOk a b) : ACalls Tryz.prog 17 [zF a, zF b] (.tup [zF (a / b), cI 0]) := by
  obtain ⟨h1, h2⟩ := h
  have r1 := fright_yes a ha
  have r2 := fright_yes b hb
  have cb := sgn_cases b.num
  have m1 := mulZ_ok a.num b.den ha.1 hb.2
  rw [(full_yes h1).1, (full_yes h1).2] at m1
  have m2 := mulZ_ok a.den b.num ha.2 hb.1
  rw [(full_yes h2).1, (full_yes h2).2] at m2
  have q1 := quot_yes _ _ h1 h2 (mul_ne (den_ne a) h0)
  rw [rat_div a b h0]
  generalize Rat.divInt (a.num * b.den) (a.den * b.num) = r at *
  refine ACalls.of_M TYok (qs := [zF r, cI 0]) [.cell 4 26, .tmp 5] 49 Tryz.func17 (by kernel_rfl) rfl rfl rfl fun G => ?_
  refine W.initA (hw := ?_)
  repeat' (first | ((first | apply U_ | (apply Ug_; exact rfl; exact rfl) | (apply Ugq_; exact rfl; exact rfl)); (first | exact QX.Move TYok | exact QX.Asg TYok | exact QX.Fld TYok | exact QX.Ld TYok | exact QX.Bin TYok | exact QX.Pick TYok | exact QX.Un TYok | exact QX.Ext TYok | exact QX.Build TYok | (apply Q_calld (r1); exact EvD.auto) | (apply Q_calld (r2); exact EvD.auto) | (apply Q_calld (m1); exact EvD.auto) | (apply Q_calld (m2); exact EvD.auto) | (apply Q_calld (q1); exact EvD.auto)); exact rfl) | refine SX.Alloc TYok (h := ?_) | refine SX.Store TYok (h := ?_) | refine SX.Box TYok (h := ?_) | apply RG.nil | apply Lex.nil | apply Then.n | apply Then.r | apply Then.x | apply InBlock.n | apply InBlock.r | apply InBlock.hit | (apply InBlock.miss; exact rfl) | apply W.seq | apply W.region | apply W.block | apply W.skip | apply W.ret | apply W.exit | (apply S_isnil TYok; exact rfl; exact rfl; exact rfl; exact Ev.auto; intro bn hnil) | (apply RG.gT; exact rfl; exact rfl; (first | assumption | decide)) | (apply RG.gF; exact rfl; exact rfl; (first | assumption | decide | (rw [ne_eq, Bool.not_eq_true]; assumption) | (rw [ne_eq, Bool.not_eq_false]; assumption)); exact rfl) | (refine W.condA (ht := fun hb => ?_) (hf := fun hb => ?_) <;> (try simp at hb) <;> (try (exfalso; omega))))
  all_goals exact FinM.ret ResM.auto
theorem fdiv_zero (a b : Rat) (ha : okF a) (hb : okF b) (h0 : b.num = 0) : ACalls Tryz.prog 17 [zF a, zF b] (.tup [zF0, cI 15]) := by
  have r1 := fright_yes a ha
  have r2 := fright_yes b hb
  have cb := sgn_cases b.num
  refine ACalls.of_M TYok (qs := [zF0, cI 15]) [.cell 4 26, .tmp 5] 49 Tryz.func17 (by kernel_rfl) rfl rfl rfl fun G => ?_
  refine W.initA (hw := ?_)
  repeat' (first | ((first | apply U_ | (apply Ug_; exact rfl; exact rfl) | (apply Ugq_; exact rfl; exact rfl)); (first | exact QX.Move TYok | exact QX.Asg TYok | exact QX.Fld TYok | exact QX.Ld TYok | exact QX.Bin TYok | exact QX.Pick TYok | exact QX.Un TYok | exact QX.Ext TYok | exact QX.Build TYok | (apply Q_calld (r1); exact EvD.auto) | (apply Q_calld (r2); exact EvD.auto)); exact rfl) | refine SX.Alloc TYok (h := ?_) | refine SX.Store TYok (h := ?_) | refine SX.Box TYok (h := ?_) | apply RG.nil | apply Lex.nil | apply Then.n | apply Then.r | apply Then.x | apply InBlock.n | apply InBlock.r | apply InBlock.hit | (apply InBlock.miss; exact rfl) | apply W.seq | apply W.region | apply W.block | apply W.skip | apply W.ret | apply W.exit | (apply S_isnil TYok; exact rfl; exact rfl; exact rfl; exact Ev.auto; intro bn hnil) | (apply RG.gT; exact rfl; exact rfl; (first | assumption | decide)) | (apply RG.gF; exact rfl; exact rfl; (first | assumption | decide | (rw [ne_eq, Bool.not_eq_true]; assumption) | (rw [ne_eq, Bool.not_eq_false]; assumption)); exact rfl) | (refine W.condA (ht := fun hb => ?_) (hf := fun hb => ?_) <;> (try simp at hb) <;> (try (exfalso; omega))))
  all_goals exact FinM.ret (ResM.cell rfl rfl rfl rfl zeroSubF (ResM.tmp rfl rfl PSub.rfl' ResM.nil))
theorem neg_okF {b : Rat} (h : okF b) : okF (-b) := ⟨by rw [Rat.neg_num]; exact okZ_neg h.1, by rw [Rat.neg_den]; exact h.2⟩
theorem fsub_yes (a b : Rat) (ha : okF a) (hb : okF b) (h : addOk a (-b)) : ACalls Tryz.prog 12 [zF a, zF b] (.tup [zF (a - b), cI 0]) := by
  have r1 := fright_yes a ha
  have r2 := fright_yes b hb
  have n1 := neg_ok b.num hb.1
  have a1 := add_yes a (-b) ha (neg_okF hb) h
  rw [show zF (-b) = zF2 (-b.num) b.den by show zF2 (-b).num ((-b).den : Int) = _; rw [Rat.neg_num, Rat.neg_den], ← Rat.sub_eq_add_neg] at a1
  generalize a - b = r at *
  refine ACalls.of_M TYok (qs := [zF r, cI 0]) [.cell 4 26, .tmp 5] 25 Tryz.func12 (by kernel_rfl) rfl rfl rfl fun G => ?_
  refine W.initA (hw := ?_)
  repeat' (first | ((first | apply U_ | (apply Ug_; exact rfl; exact rfl) | (apply Ugq_; exact rfl; exact rfl) | apply Lex.u | (apply Lex.g; exact rfl; exact rfl) | (apply Lex.gq; exact rfl; exact rfl)); (first | exact QX.Move TYok | exact QX.Asg TYok | exact QX.Fld TYok | exact QX.Ld TYok | exact QX.Pick TYok | exact QX.Un TYok | exact QX.Ext TYok | exact QX.Build TYok | (apply Q_calld (r1); exact EvD.auto) | (apply Q_calld (r2); exact EvD.auto) | (apply Q_calld (n1); exact EvD.auto) | (apply Q_calld (a1); exact EvD.auto)); exact rfl) | refine SX.Alloc TYok (h := ?_) | refine SX.Store TYok (h := ?_) | refine SX.Box TYok (h := ?_) | apply RG.nil | apply Lex.nil | apply Then.n | apply Then.r | apply Then.x | apply InBlock.n | apply InBlock.r | apply InBlock.hit | (apply InBlock.miss; exact rfl) | apply W.seq | apply W.region | apply W.block | apply W.skip | apply W.ret | apply W.exit | (apply RG.gT; exact rfl; exact rfl; (first | assumption | decide)) | (apply RG.gF; exact rfl; exact rfl; (first | assumption | decide | (rw [ne_eq, Bool.not_eq_true]; assumption) | (rw [ne_eq, Bool.not_eq_false]; assumption)); exact rfl) | (apply W.draw2 (id := 3) [0, 0, 2, 6, 0, 16, 62, 127, 255, 255, 1023, 2047] [[2], [3], [16], [17], [3], [19], [18, 20], [15, 21], [22], [22]] 10 [(15, 4), (16, 8), (17, 65536), (18, 131072), (19, 8), (20, 524288), (21, 1310720), (22, 2129920), (23, 4194304), (24, 4194304)] mixed (by kernel_rfl) rfl rfl) | (refine W.condA (ht := fun hb => ?_) (hf := fun hb => ?_) <;> (try simp at hb) <;> (try (exfalso; omega))))
  all_goals exact FinM.ret ResM.auto
theorem floor_ok (r : Rat) (h : okF r) : ACalls Tryz.prog 32 [zF r] (.pv (zB (quoZ r.num r.den))) := by
  have r1 := fright_yes r h
  have d1 := divZ_ok r.num r.den h.1 h.2 (den_ne r)
  refine ACalls.of_M TYok (qs := [zB (quoZ r.num r.den)]) [.cell 2 24] 20 Tryz.func32 (by kernel_rfl) rfl rfl rfl fun G => ?_
  refine W.initA (hw := ?_)
  repeat' (first | ((first | apply U_); (first | exact QX.Move TYok | exact QX.Asg TYok | exact QX.Fld TYok | exact QX.Ld TYok | exact QX.Un TYok | exact QX.Ext TYok | exact QX.Build TYok | (apply Q_calld (r1); exact EvD.auto) | (apply Q_calld (d1); exact EvD.auto)); exact rfl) | refine SX.Alloc TYok (h := ?_) | refine SX.Store TYok (h := ?_) | refine SX.Box TYok (h := ?_) | apply RG.nil | apply Lex.nil | apply Then.n | apply Then.r | apply Then.x | apply InBlock.n | apply InBlock.r | apply InBlock.hit | (apply InBlock.miss; exact rfl) | apply W.seq | apply W.region | apply W.block | apply W.skip | apply W.ret | apply W.exit | (refine W.condA (ht := fun hb => ?_) (hf := fun hb => ?_) <;> (try simp at hb) <;> (try (exfalso; omega))))
  all_goals exact FinM.ret ResM.auto
end
end Go.Proofs.YtipghibmgfhmpaaGreatDoor
end
section
set_option linter.unusedVariables false
set_option linter.unusedSimpArgs false
set_option maxHeartbeats 8000000
namespace Go.Proofs.YtipghibmgfhmpaaGreatDoor
open Lf Go
attribute [local irreducible] PureOp EffOp Ev RG W Then InBlock Lf.Fin nth App InitE Pick SubE EvL EvD EvP EvR ResL Lf.Lex SubR SubBR FinO FinM ResM ResD FinS val pw digs trimL
theorem cmp_cases (x y : Int) : (cmpI x y = -1 ∧ x < y) ∨ (cmpI x y = 0 ∧ x = y) ∨ (cmpI x y = 1 ∧ y < x) := by
  unfold cmpI
  split
  · exact .inl ⟨rfl, ‹_›⟩
  · split
    · exact .inr (.inr ⟨rfl, ‹_›⟩)
    · exact .inr (.inl ⟨rfl, by omega⟩)
theorem cmp_swap (x y : Int) : cmpI y x = -cmpI x y := by
  have := cmp_cases x y
  have := cmp_cases y x
  omega
def cmpR (a b : Rat) : Int := cmpI (a.num * b.den) (b.num * a.den)
theorem quo_ltQ {p q r s : Int} (hq : 0 < q) (hs : 0 < s) (h : quoZ p q < quoZ r s) : p * s < r * q := by
  have h1 := quo_rem p q
  have h2 := quo_rem r s
  have h3 := (rem_rng (x := p) (y := q) (by omega)).1 hq
  have h4 := (rem_rng (x := r) (y := s) (by omega)).1 hs
  generalize quoZ p q = x at *
  generalize remZ p q = u at *
  generalize quoZ r s = y at *
  generalize remZ r s = v at *
  have a1 := Int.mul_nonneg (Int.mul_nonneg (show 0 ≤ q by omega) (show 0 ≤ s by omega)) (show 0 ≤ y - x - 1 by omega)
  have a2 := Int.mul_nonneg (show 0 ≤ q by omega) h4.1
  have a3 := Int.mul_nonneg (show 0 ≤ q - 1 - u by omega) (show 0 ≤ s by omega)
  have e : r * q - p * s = q * s * (y - x - 1) + q * v + s + (q - 1 - u) * s := by rw [h1, h2]; grind
  omega
theorem cmp_quo {p q r s : Int} (hq : 0 < q) (hs : 0 < s) (h : quoZ p q ≠ quoZ r s) : cmpI (p * s) (r * q) = cmpI (quoZ p q) (quoZ r s) := by
  have c := cmp_cases (quoZ p q) (quoZ r s)
  have c' := cmp_cases (p * s) (r * q)
  rcases Int.lt_or_gt_of_ne h with h1 | h1
  · have := quo_ltQ hq hs h1; omega
  · have := quo_ltQ hs hq h1; omega
theorem cmp_same {p q r s : Int} (h : quoZ p q = quoZ r s) : cmpI (p * s) (r * q) = cmpI (remZ p q * s) (remZ r s * q) := by
  have h1 := quo_rem p q
  have h2 := quo_rem r s
  rw [h] at h1
  generalize quoZ r s = y at *
  generalize remZ p q = u at *
  generalize remZ r s = v at *
  have e : p * s - r * q = u * s - v * q := by rw [h1, h2]; grind
  have c := cmp_cases (p * s) (r * q)
  have c' := cmp_cases (u * s) (v * q)
  omega
theorem cmp_end {u s v q : Int} (hq : 0 < q) (hs : 0 < s) (hu : 0 ≤ u) (hv : 0 ≤ v) (h : u = 0 ∨ v = 0) : cmpI (u * s) (v * q) = sgn u - sgn v := by
  have cu := sgn_cases u
  have cv := sgn_cases v
  have c := cmp_cases (u * s) (v * q)
  rcases h with rfl | rfl
  · rw [Int.zero_mul] at *
    by_cases h0 : v = 0
    · subst h0; rw [Int.zero_mul] at *; omega
    · have := Int.mul_pos (show 0 < v by omega) hq; omega
  · rw [Int.zero_mul] at *
    by_cases h0 : u = 0
    · subst h0; rw [Int.zero_mul] at *; omega
    · have := Int.mul_pos (show 0 < u by omega) hs; omega
structure CS where
  p : Int
  q : Int
  r : Int
  s : Int
  t : Int
structure CI (T : Int) (z : CS) : Prop where
  op : okZ z.p
  oq : okZ z.q
  or : okZ z.r
  os : okZ z.s
  hq : 0 < z.q
  hs : 0 < z.s
  ht : z.t = 1 ∨ z.t = -1
  eq : z.t * cmpI (z.p * z.s) (z.r * z.q) = T
abbrev bz (x : Int) : Blk := ⟨24, 2, [[.int .i64 (sgn x), .sl ((digs (mag x)).map Lf.encI)]]⟩
attribute [local irreducible] sgn mag gcdZ quoZ remZ txtZ readF fullZ fullE
theorem fcmp_ok (a b : Rat) (ha : okF a) (hB : okF b) : ACalls Tryz.prog 27 [zF a, zF b] (.pv (cI (cmpR a b))) := by
  have r1 := fright_yes a ha
  have r2 := fright_yes b hB
  have da := den_pos a
  have db := den_pos b
  refine ACalls.of_W (qs := [cI (cmpR a b)]) [4] 78 Tryz.func27 (by kernel_rfl) rfl rfl rfl fun G => ?_
  refine W.initA (hw := ?_)
  repeat' (first | ((first | apply U_ | (apply Ug_; exact rfl; exact rfl) | (apply Ugq_; exact rfl; exact rfl)); (first | exact QX.Move TYok | exact QX.Asg TYok | exact QX.Fld TYok | exact QX.Ld TYok | exact QX.Bin TYok | exact QX.Pick TYok | exact QX.Un TYok | exact QX.Ext TYok | (apply Q_calld (r1); exact EvD.auto) | (apply Q_calld (r2); exact EvD.auto)); exact rfl) | refine SX.Alloc TYok (h := ?_) | refine SX.Store TYok (h := ?_) | refine SX.Box TYok (h := ?_) | apply RG.nil | apply Lex.nil | apply Then.n | apply Then.r | apply Then.x | apply InBlock.n | apply InBlock.r | apply InBlock.hit | (apply InBlock.miss; exact rfl) | apply W.seq | apply W.region | apply W.block | apply W.skip | apply W.ret | apply W.exit | (apply S_isnil TYok; exact rfl; exact rfl; exact rfl; exact Ev.auto; intro bn hnil) | (apply RG.gT; exact rfl; exact rfl; (first | assumption | decide)) | (apply RG.gF; exact rfl; exact rfl; (first | assumption | decide | (rw [ne_eq, Bool.not_eq_true]; assumption) | (rw [ne_eq, Bool.not_eq_false]; assumption)); exact rfl) | apply LexS.nil | (apply LexS.f; exact rfl; (first | (apply FreshV.alloc TYok; exact rfl; exact rfl; exact rfl; exact rfl) | (apply FreshV.lit TYok; (repeat (first | exact EvR.nil | apply EvR.cons Ev.auto)); exact rfl; exact rfl; exact rfl; exact rfl; exact rfl; exact rfl; exact rfl; exact rfl; exact rfl) | (apply FreshV.box; exact Ev.auto; exact rfl; exact rfl; exact rfl)); exact rfl; exact rfl; exact rfl) | (apply LexS.s; exact rfl; exact rfl; (apply StoreV.mk TYok; exact Ev.auto; exact Ev.auto; exact rfl; exact rfl; exact rfl; exact rfl; exact rfl)) | ((first | apply LexS.u | (apply LexS.g; exact rfl; exact rfl) | (apply LexS.gq; exact rfl; exact rfl)); (repeat (first | (apply NB.cons; exact rfl) | exact NB.nil rfl)); (first | exact QX.Move TYok | exact QX.Asg TYok | exact QX.Fld TYok | exact QX.Ld TYok | exact QX.Bin TYok | exact QX.Pick TYok | exact QX.Un TYok | exact QX.Ext TYok | (apply Q_calld (r1); exact EvD.auto) | (apply Q_calld (r2); exact EvD.auto)); exact rfl; exact rfl; exact rfl) | (refine W.drawS (id := 3) [0, 1, 0, 4, 0, 16, 0, 64, 0, 0, 0, 0, 3843, 7951, 16191, 32767] [[2], [25], [2], [27], [3], [29], [3], [31], [], [], [], [], [5, 26], [6, 28], [7, 30], [8, 32]] [(15, (8, ?_)), (14, (7, ?_)), (13, (6, ?_)), (12, (5, ?_)), (11, (8, ?_)), (10, (7, ?_)), (9, (6, ?_)), (8, (5, ?_))] [(15, 8), (14, 7), (13, 6), (12, 5), (11, 8), (10, 7), (9, 6), (8, 5)] mixed (by kernel_rfl) rfl ?_; rotate_left 8) | (refine W.drawA (id := 13) (L := [false, false, false, false, false, false, false, false]) mixed rfl ?_) | exact RAll.nil | (refine RAll.cons rfl ?_ ?_) | (refine RA.step (L := [false, false, false, false, false, false, false, false]) (i := 0) (is := [1, 2, 3]) (by kernel_rfl) ?_) | (refine RA.step (L := [false, false, false, true, false, false, false, false]) (i := 0) (is := [1, 2]) (by kernel_rfl) ?_) | (refine RA.step (L := [false, false, true, true, false, false, false, false]) (i := 0) (is := [1]) (by kernel_rfl) ?_) | (refine RA.step (L := [false, true, true, true, false, false, false, false]) (i := 0) (is := []) (by kernel_rfl) ?_) | (refine RA.step (L := [true, true, true, true, false, false, false, false]) (i := 4) (is := []) (by kernel_rfl) ?_) | (refine RA.step (L := [true, true, true, true, true, false, false, false]) (i := 5) (is := []) (by kernel_rfl) ?_) | (refine RA.step (L := [true, true, true, true, true, true, false, false]) (i := 6) (is := []) (by kernel_rfl) ?_) | (refine RA.step (L := [true, true, true, true, true, true, true, false]) (i := 7) (is := []) (by kernel_rfl) ?_) | (refine RA.done (L := [true, true, true, true, true, true, true, true]) (by kernel_rfl) ?_) | (refine RA.step (L := [true, false, true, true, false, false, false, false]) (i := 1) (is := [4]) (by kernel_rfl) ?_) | (refine RA.step (L := [true, false, true, true, true, false, false, false]) (i := 1) (is := []) (by kernel_rfl) ?_) | (refine RA.step (L := [false, true, false, true, false, false, false, false]) (i := 0) (is := [2]) (by kernel_rfl) ?_) | (refine RA.step (L := [true, true, false, true, false, false, false, false]) (i := 2) (is := [4]) (by kernel_rfl) ?_) | (refine RA.step (L := [true, true, false, true, true, false, false, false]) (i := 2) (is := [5]) (by kernel_rfl) ?_) | (refine RA.step (L := [true, true, false, true, true, true, false, false]) (i := 2) (is := []) (by kernel_rfl) ?_) | (refine RA.step (L := [true, false, false, true, false, false, false, false]) (i := 1) (is := [2, 4]) (by kernel_rfl) ?_) | (refine RA.step (L := [true, false, false, true, true, false, false, false]) (i := 1) (is := [2]) (by kernel_rfl) ?_) | (refine RA.step (L := [false, false, true, false, false, false, false, false]) (i := 0) (is := [1, 3]) (by kernel_rfl) ?_) | (refine RA.step (L := [false, true, true, false, false, false, false, false]) (i := 0) (is := [3]) (by kernel_rfl) ?_) | (refine RA.step (L := [true, true, true, false, false, false, false, false]) (i := 3) (is := [4]) (by kernel_rfl) ?_) | (refine RA.step (L := [true, true, true, false, true, false, false, false]) (i := 3) (is := [5]) (by kernel_rfl) ?_) | (refine RA.step (L := [true, true, true, false, true, true, false, false]) (i := 3) (is := [6]) (by kernel_rfl) ?_) | (refine RA.step (L := [true, true, true, false, true, true, true, false]) (i := 3) (is := []) (by kernel_rfl) ?_) | (refine RA.step (L := [true, false, true, false, false, false, false, false]) (i := 1) (is := [3, 4]) (by kernel_rfl) ?_) | (refine RA.step (L := [true, false, true, false, true, false, false, false]) (i := 1) (is := [3]) (by kernel_rfl) ?_) | (refine RA.step (L := [false, true, false, false, false, false, false, false]) (i := 0) (is := [2, 3]) (by kernel_rfl) ?_) | (refine RA.step (L := [true, true, false, false, false, false, false, false]) (i := 2) (is := [3, 4]) (by kernel_rfl) ?_) | (refine RA.step (L := [true, true, false, false, true, false, false, false]) (i := 2) (is := [3, 5]) (by kernel_rfl) ?_) | (refine RA.step (L := [true, true, false, false, true, true, false, false]) (i := 2) (is := [3]) (by kernel_rfl) ?_) | (refine RA.step (L := [true, false, false, false, false, false, false, false]) (i := 1) (is := [2, 3, 4]) (by kernel_rfl) ?_) | (refine RA.step (L := [true, false, false, false, true, false, false, false]) (i := 1) (is := [2, 3]) (by kernel_rfl) ?_) | (refine W.condA (ht := fun hb => ?_) (hf := fun hb => ?_) <;> (try simp at hb) <;> (try (exfalso; omega))))
  apply W.loopP (σ := CS) 78 [] (CI (cmpR a b)) (fun z => [(9, vI z.t), (5, (True, .addr 5 0 0)), (6, (True, .addr 6 0 0)), (7, (True, .addr 7 0 0)), (8, (True, .addr 8 0 0))]) (fun z => [(5, bz z.p), (6, bz z.q), (7, bz z.r), (8, bz z.s)]) (fun z => z.q.toNat) (⟨a.num, a.den, b.num, b.den, 1⟩)
  case hp => repeat (first | exact Pick.nil | apply Pick.cons rfl)
  case h0 =>
    refine ⟨⟨ha.1, ha.2, hB.1, hB.2, da, db, .inl rfl, by rw [Int.one_mul]; rfl⟩, ?_⟩
    exact Le.auto
  case round =>
    rintro ⟨p, q, r, s, t⟩ ⟨op, oq, or', os, hq, hs, ht, he⟩
    simp only at op oq or' os hq hs ht he
    have d1 := divZ_ok p q op oq (by omega)
    have d2 := divZ_ok r s or' os (by omega)
    have k1 := cmpZ_ok (quoZ p q) (quoZ r s) (okZ_quo op (by omega)) (okZ_quo or' (by omega))
    have hu := (rem_rng (x := p) (y := q) (by omega)).1 hq
    have hv := (rem_rng (x := r) (y := s) (by omega)).1 hs
    have ou := okZ_rem (x := p) oq (by omega)
    have ov := okZ_rem (x := r) os (by omega)
    have cu := sgn_cases (remZ p q)
    have cv := sgn_cases (remZ r s)
    have cc := cmp_cases (quoZ p q) (quoZ r s)
    show Lf.W _ _ _ _ (mkSt 78 [(9, vI t), (5, (True, .addr 5 0 0)), (6, (True, .addr 6 0 0)), (7, (True, .addr 7 0 0)), (8, (True, .addr 8 0 0))] _ [(5, bz p), (6, bz q), (7, bz r), (8, bz s)])
    apply W.norm (by repeat (first | exact App.nil | apply App.cons))
    by_cases h1 : quoZ p q = quoZ r s
    · have e1 := cmp_same h1
      have kc : cmpI (quoZ p q) (quoZ r s) = 0 := by omega
      rw [kc] at k1
      by_cases h2 : remZ p q = 0 ∨ remZ r s = 0
      · have e2 := cmp_end hq hs hu.1 hv.1 h2
        rw [e1, e2] at he
        have hbd : -1 ≤ t * (sgn (remZ p q) - sgn (remZ r s)) ∧ t * (sgn (remZ p q) - sgn (remZ r s)) ≤ 1 := by rcases ht with rfl | rfl <;> omega
        generalize quoZ p q = x at *
        generalize remZ p q = u at *
        generalize quoZ r s = y at *
        generalize remZ r s = v at *
        repeat' (first | ((first | apply U_ | (apply Ug_; exact rfl; exact rfl) | (apply Ugq_; exact rfl; exact rfl)); (first | exact QX.Move TYok | exact QX.Asg TYok | exact QX.Fld TYok | exact QX.Ld TYok | exact QX.Bin TYok | exact QX.Pick TYok | exact QX.Un TYok | exact QX.Ext TYok | (apply Q_calld (d1); exact EvD.auto) | (apply Q_calld (d2); exact EvD.auto) | (apply Q_calld (k1); exact EvD.auto)); exact rfl) | refine SX.Alloc TYok (h := ?_) | refine SX.Store TYok (h := ?_) | refine SX.Box TYok (h := ?_) | apply RG.nil | apply Lex.nil | apply Then.n | apply Then.r | apply Then.x | apply InBlock.n | apply InBlock.r | apply InBlock.hit | (apply InBlock.miss; exact rfl) | apply W.seq | apply W.region | apply W.block | apply W.skip | apply W.ret | apply W.exit | (apply S_isnil TYok; exact rfl; exact rfl; exact rfl; exact Ev.auto; intro bn hnil) | (apply RG.gT; exact rfl; exact rfl; (first | assumption | decide)) | (apply RG.gF; exact rfl; exact rfl; (first | assumption | decide | (rw [ne_eq, Bool.not_eq_true]; assumption) | (rw [ne_eq, Bool.not_eq_false]; assumption)); exact rfl) | (refine W.drawA (id := 13) (L := [false, false, false, false, false, false, false, false]) mixed rfl ?_) | exact RAll.nil | (refine RAll.cons rfl ?_ ?_) | (refine RA.step (L := [false, false, false, false, false, false, false, false]) (i := 0) (is := [1, 2, 3]) (by kernel_rfl) ?_) | (refine RA.step (L := [false, false, false, true, false, false, false, false]) (i := 0) (is := [1, 2]) (by kernel_rfl) ?_) | (refine RA.step (L := [false, false, true, true, false, false, false, false]) (i := 0) (is := [1]) (by kernel_rfl) ?_) | (refine RA.step (L := [false, true, true, true, false, false, false, false]) (i := 0) (is := []) (by kernel_rfl) ?_) | (refine RA.step (L := [true, true, true, true, false, false, false, false]) (i := 4) (is := []) (by kernel_rfl) ?_) | (refine RA.step (L := [true, true, true, true, true, false, false, false]) (i := 5) (is := []) (by kernel_rfl) ?_) | (refine RA.step (L := [true, true, true, true, true, true, false, false]) (i := 6) (is := []) (by kernel_rfl) ?_) | (refine RA.step (L := [true, true, true, true, true, true, true, false]) (i := 7) (is := []) (by kernel_rfl) ?_) | (refine RA.done (L := [true, true, true, true, true, true, true, true]) (by kernel_rfl) ?_) | (refine RA.step (L := [true, false, true, true, false, false, false, false]) (i := 1) (is := [4]) (by kernel_rfl) ?_) | (refine RA.step (L := [true, false, true, true, true, false, false, false]) (i := 1) (is := []) (by kernel_rfl) ?_) | (refine RA.step (L := [false, true, false, true, false, false, false, false]) (i := 0) (is := [2]) (by kernel_rfl) ?_) | (refine RA.step (L := [true, true, false, true, false, false, false, false]) (i := 2) (is := [4]) (by kernel_rfl) ?_) | (refine RA.step (L := [true, true, false, true, true, false, false, false]) (i := 2) (is := [5]) (by kernel_rfl) ?_) | (refine RA.step (L := [true, true, false, true, true, true, false, false]) (i := 2) (is := []) (by kernel_rfl) ?_) | (refine RA.step (L := [true, false, false, true, false, false, false, false]) (i := 1) (is := [2, 4]) (by kernel_rfl) ?_) | (refine RA.step (L := [true, false, false, true, true, false, false, false]) (i := 1) (is := [2]) (by kernel_rfl) ?_) | (refine RA.step (L := [false, false, true, false, false, false, false, false]) (i := 0) (is := [1, 3]) (by kernel_rfl) ?_) | (refine RA.step (L := [false, true, true, false, false, false, false, false]) (i := 0) (is := [3]) (by kernel_rfl) ?_) | (refine RA.step (L := [true, true, true, false, false, false, false, false]) (i := 3) (is := [4]) (by kernel_rfl) ?_) | (refine RA.step (L := [true, true, true, false, true, false, false, false]) (i := 3) (is := [5]) (by kernel_rfl) ?_) | (refine RA.step (L := [true, true, true, false, true, true, false, false]) (i := 3) (is := [6]) (by kernel_rfl) ?_) | (refine RA.step (L := [true, true, true, false, true, true, true, false]) (i := 3) (is := []) (by kernel_rfl) ?_) | (refine RA.step (L := [true, false, true, false, false, false, false, false]) (i := 1) (is := [3, 4]) (by kernel_rfl) ?_) | (refine RA.step (L := [true, false, true, false, true, false, false, false]) (i := 1) (is := [3]) (by kernel_rfl) ?_) | (refine RA.step (L := [false, true, false, false, false, false, false, false]) (i := 0) (is := [2, 3]) (by kernel_rfl) ?_) | (refine RA.step (L := [true, true, false, false, false, false, false, false]) (i := 2) (is := [3, 4]) (by kernel_rfl) ?_) | (refine RA.step (L := [true, true, false, false, true, false, false, false]) (i := 2) (is := [3, 5]) (by kernel_rfl) ?_) | (refine RA.step (L := [true, true, false, false, true, true, false, false]) (i := 2) (is := [3]) (by kernel_rfl) ?_) | (refine RA.step (L := [true, false, false, false, false, false, false, false]) (i := 1) (is := [2, 3, 4]) (by kernel_rfl) ?_) | (refine RA.step (L := [true, false, false, false, true, false, false, false]) (i := 1) (is := [2, 3]) (by kernel_rfl) ?_) | (refine W.condA (ht := fun hb => ?_) (hf := fun hb => ?_) <;> (try simp at hb) <;> (try (exfalso; omega))))
        all_goals exact Fin.ret (ResL.cons rfl rfl (PSub.of_eq (congrArg (fun n => PV.one (Cell.int .i64 n)) he)) ResL.nil)
      · have e3 := cmp_swap (remZ p q * s) (remZ r s * q)
        have hnew : -t * cmpI (q * remZ r s) (s * remZ p q) = cmpR a b := by
          rw [← he, e1, Int.mul_comm q, Int.mul_comm s, e3, Int.neg_mul_neg]
        generalize quoZ p q = x at *
        generalize hu' : remZ p q = u at *
        generalize quoZ r s = y at *
        generalize hv' : remZ r s = v at *
        repeat' (first | ((first | apply U_ | (apply Ug_; exact rfl; exact rfl) | (apply Ugq_; exact rfl; exact rfl)); (first | exact QX.Move TYok | exact QX.Asg TYok | exact QX.Fld TYok | exact QX.Ld TYok | exact QX.Bin TYok | exact QX.Pick TYok | exact QX.Un TYok | exact QX.Ext TYok | (apply Q_calld (d1); exact EvD.auto) | (apply Q_calld (d2); exact EvD.auto) | (apply Q_calld (k1); exact EvD.auto)); exact rfl) | refine SX.Alloc TYok (h := ?_) | refine SX.Store TYok (h := ?_) | refine SX.Box TYok (h := ?_) | apply RG.nil | apply Lex.nil | apply Then.n | apply Then.r | apply Then.x | apply InBlock.n | apply InBlock.r | apply InBlock.hit | (apply InBlock.miss; exact rfl) | apply W.seq | apply W.region | apply W.block | apply W.skip | apply W.ret | apply W.exit | (apply S_isnil TYok; exact rfl; exact rfl; exact rfl; exact Ev.auto; intro bn hnil) | (apply RG.gT; exact rfl; exact rfl; (first | assumption | decide)) | (apply RG.gF; exact rfl; exact rfl; (first | assumption | decide | (rw [ne_eq, Bool.not_eq_true]; assumption) | (rw [ne_eq, Bool.not_eq_false]; assumption)); exact rfl) | apply LexS.nil | (apply LexS.f; exact rfl; (first | (apply FreshV.alloc TYok; exact rfl; exact rfl; exact rfl; exact rfl) | (apply FreshV.lit TYok; (repeat (first | exact EvR.nil | apply EvR.cons Ev.auto)); exact rfl; exact rfl; exact rfl; exact rfl; exact rfl; exact rfl; exact rfl; exact rfl; exact rfl) | (apply FreshV.box; exact Ev.auto; exact rfl; exact rfl; exact rfl)); exact rfl; exact rfl; exact rfl) | (apply LexS.s; exact rfl; exact rfl; (apply StoreV.mk TYok; exact Ev.auto; exact Ev.auto; exact rfl; exact rfl; exact rfl; exact rfl; exact rfl)) | ((first | apply LexS.u | (apply LexS.g; exact rfl; exact rfl) | (apply LexS.gq; exact rfl; exact rfl)); (repeat (first | (apply NB.cons; exact rfl) | exact NB.nil rfl)); (first | exact QX.Move TYok | exact QX.Asg TYok | exact QX.Fld TYok | exact QX.Ld TYok | exact QX.Bin TYok | exact QX.Pick TYok | exact QX.Un TYok | exact QX.Ext TYok | (apply Q_calld (d1); exact EvD.auto) | (apply Q_calld (d2); exact EvD.auto) | (apply Q_calld (k1); exact EvD.auto)); exact rfl; exact rfl; exact rfl) | (refine W.drawS (id := 13) [0, 0, 0, 0, 1, 19, 55, 127] [[6], [11], [8], [14], [5, 74], [6, 75], [7, 76], [8, 77]] [(7, (8, ?_)), (6, (7, ?_)), (5, (6, ?_)), (4, (5, ?_))] [(7, 8), (6, 7), (5, 6), (4, 5)] mixed (by kernel_rfl) rfl ?_; rotate_left 4) | (refine W.condA (ht := fun hb => ?_) (hf := fun hb => ?_) <;> (try simp at hb) <;> (try (exfalso; omega))))
        all_goals (refine ⟨⟨q, u, s, v, -t⟩, ⟨oq, ou, os, ov, by show 0 < u; omega, by show 0 < v; omega, by show -t = 1 ∨ -t = -1; omega, hnew⟩, ?_, by show u.toNat < q.toNat; omega⟩; exact Le.auto)
    · have e1 := cmp_quo hq hs h1
      rw [e1] at he
      have hbd : -1 ≤ t * cmpI (quoZ p q) (quoZ r s) ∧ t * cmpI (quoZ p q) (quoZ r s) ≤ 1 := by rcases ht with rfl | rfl <;> omega
      generalize cmpI (quoZ p q) (quoZ r s) = c at *
      generalize quoZ p q = x at *
      generalize remZ p q = u at *
      generalize quoZ r s = y at *
      generalize remZ r s = v at *
      repeat' (first | ((first | apply U_ | (apply Ug_; exact rfl; exact rfl) | (apply Ugq_; exact rfl; exact rfl)); (first | exact QX.Move TYok | exact QX.Asg TYok | exact QX.Fld TYok | exact QX.Ld TYok | exact QX.Bin TYok | exact QX.Pick TYok | exact QX.Un TYok | exact QX.Ext TYok | (apply Q_calld (d1); exact EvD.auto) | (apply Q_calld (d2); exact EvD.auto) | (apply Q_calld (k1); exact EvD.auto)); exact rfl) | refine SX.Alloc TYok (h := ?_) | refine SX.Store TYok (h := ?_) | refine SX.Box TYok (h := ?_) | apply RG.nil | apply Lex.nil | apply Then.n | apply Then.r | apply Then.x | apply InBlock.n | apply InBlock.r | apply InBlock.hit | (apply InBlock.miss; exact rfl) | apply W.seq | apply W.region | apply W.block | apply W.skip | apply W.ret | apply W.exit | (apply S_isnil TYok; exact rfl; exact rfl; exact rfl; exact Ev.auto; intro bn hnil) | (apply RG.gT; exact rfl; exact rfl; (first | assumption | decide)) | (apply RG.gF; exact rfl; exact rfl; (first | assumption | decide | (rw [ne_eq, Bool.not_eq_true]; assumption) | (rw [ne_eq, Bool.not_eq_false]; assumption)); exact rfl) | (refine W.drawA (id := 13) (L := [false, false, false, false, false, false, false, false]) mixed rfl ?_) | exact RAll.nil | (refine RAll.cons rfl ?_ ?_) | (refine RA.step (L := [false, false, false, false, false, false, false, false]) (i := 0) (is := [1, 2, 3]) (by kernel_rfl) ?_) | (refine RA.step (L := [false, false, false, true, false, false, false, false]) (i := 0) (is := [1, 2]) (by kernel_rfl) ?_) | (refine RA.step (L := [false, false, true, true, false, false, false, false]) (i := 0) (is := [1]) (by kernel_rfl) ?_) | (refine RA.step (L := [false, true, true, true, false, false, false, false]) (i := 0) (is := []) (by kernel_rfl) ?_) | (refine RA.step (L := [true, true, true, true, false, false, false, false]) (i := 4) (is := []) (by kernel_rfl) ?_) | (refine RA.step (L := [true, true, true, true, true, false, false, false]) (i := 5) (is := []) (by kernel_rfl) ?_) | (refine RA.step (L := [true, true, true, true, true, true, false, false]) (i := 6) (is := []) (by kernel_rfl) ?_) | (refine RA.step (L := [true, true, true, true, true, true, true, false]) (i := 7) (is := []) (by kernel_rfl) ?_) | (refine RA.done (L := [true, true, true, true, true, true, true, true]) (by kernel_rfl) ?_) | (refine RA.step (L := [true, false, true, true, false, false, false, false]) (i := 1) (is := [4]) (by kernel_rfl) ?_) | (refine RA.step (L := [true, false, true, true, true, false, false, false]) (i := 1) (is := []) (by kernel_rfl) ?_) | (refine RA.step (L := [false, true, false, true, false, false, false, false]) (i := 0) (is := [2]) (by kernel_rfl) ?_) | (refine RA.step (L := [true, true, false, true, false, false, false, false]) (i := 2) (is := [4]) (by kernel_rfl) ?_) | (refine RA.step (L := [true, true, false, true, true, false, false, false]) (i := 2) (is := [5]) (by kernel_rfl) ?_) | (refine RA.step (L := [true, true, false, true, true, true, false, false]) (i := 2) (is := []) (by kernel_rfl) ?_) | (refine RA.step (L := [true, false, false, true, false, false, false, false]) (i := 1) (is := [2, 4]) (by kernel_rfl) ?_) | (refine RA.step (L := [true, false, false, true, true, false, false, false]) (i := 1) (is := [2]) (by kernel_rfl) ?_) | (refine RA.step (L := [false, false, true, false, false, false, false, false]) (i := 0) (is := [1, 3]) (by kernel_rfl) ?_) | (refine RA.step (L := [false, true, true, false, false, false, false, false]) (i := 0) (is := [3]) (by kernel_rfl) ?_) | (refine RA.step (L := [true, true, true, false, false, false, false, false]) (i := 3) (is := [4]) (by kernel_rfl) ?_) | (refine RA.step (L := [true, true, true, false, true, false, false, false]) (i := 3) (is := [5]) (by kernel_rfl) ?_) | (refine RA.step (L := [true, true, true, false, true, true, false, false]) (i := 3) (is := [6]) (by kernel_rfl) ?_) | (refine RA.step (L := [true, true, true, false, true, true, true, false]) (i := 3) (is := []) (by kernel_rfl) ?_) | (refine RA.step (L := [true, false, true, false, false, false, false, false]) (i := 1) (is := [3, 4]) (by kernel_rfl) ?_) | (refine RA.step (L := [true, false, true, false, true, false, false, false]) (i := 1) (is := [3]) (by kernel_rfl) ?_) | (refine RA.step (L := [false, true, false, false, false, false, false, false]) (i := 0) (is := [2, 3]) (by kernel_rfl) ?_) | (refine RA.step (L := [true, true, false, false, false, false, false, false]) (i := 2) (is := [3, 4]) (by kernel_rfl) ?_) | (refine RA.step (L := [true, true, false, false, true, false, false, false]) (i := 2) (is := [3, 5]) (by kernel_rfl) ?_) | (refine RA.step (L := [true, true, false, false, true, true, false, false]) (i := 2) (is := [3]) (by kernel_rfl) ?_) | (refine RA.step (L := [true, false, false, false, false, false, false, false]) (i := 1) (is := [2, 3, 4]) (by kernel_rfl) ?_) | (refine RA.step (L := [true, false, false, false, true, false, false, false]) (i := 1) (is := [2, 3]) (by kernel_rfl) ?_) | (refine W.condA (ht := fun hb => ?_) (hf := fun hb => ?_) <;> (try simp at hb) <;> (try (exfalso; omega))))
      all_goals exact Fin.ret (ResL.cons rfl rfl (PSub.of_eq (congrArg (fun n => PV.one (Cell.int .i64 n)) he)) ResL.nil)
end Go.Proofs.YtipghibmgfhmpaaGreatDoor
end
section
set_option linter.unusedVariables false
set_option linter.unusedSimpArgs false
set_option maxHeartbeats 8000000
namespace Go.Proofs.YtipghibmgfhmpaaGreatDoor
open Lf Go
attribute [local irreducible] PureOp EffOp Ev RG W Then InBlock Lf.Fin nth App InitE Pick SubE EvL EvD EvP EvR ResL Lf.Lex SubR SubBR FinO FinM ResM ResD FinS val pw digs trimL
section
open Go.Lib in
theorem index_cases (c : UInt8) : ∀ s : Str, (indexByte s c = -1 ∧ c ∉ s) ∨ ∃ a b, s = a ++ c :: b ∧ c ∉ a ∧ indexByte s c = (a.length : Int)
  | [] => .inl ⟨rfl, by simp⟩
  | b :: l => by
    rw [indexByte]
    by_cases h : b = c
    · subst h
      exact .inr ⟨[], l, rfl, by simp, by simp⟩
    · have hb : (b == c) = false := by simpa using h
      rw [hb]
      rcases index_cases c l with ⟨h1, h2⟩ | ⟨x, y, h1, h2, h3⟩
      · refine .inl ⟨by simp [h1], ?_⟩
        intro hm
        rcases List.mem_cons.1 hm with e | e
        · exact h e.symm
        · exact h2 e
      · refine .inr ⟨b :: x, y, by rw [h1]; rfl, ?_, ?_⟩
        · intro hm
          rcases List.mem_cons.1 hm with e | e
          · exact h e.symm
          · exact h2 e
        · have hn : ¬ (x.length : Int) = -1 := by omega
          rw [h3]
          simp [hn]
theorem index_ok (s : Str) (c : UInt8) : ACalls Tryz.prog 94 [cS s, cS [c]] (.pv (cI (Lib.indexByte s c))) where
  fn := ⟨_, Tryz.func94, by kernel_rfl, rfl⟩
  calls := fun Φ w vs hfit harg => by
    obtain ⟨v, u, rfl, r0, r1⟩ := args2 harg
    obtain rfl := str_of r0
    obtain rfl := str_of r1
    refine (Tryz.stringslite_Index_one ⟨s.toArray⟩ c w).mono fun e w' ⟨he, hb⟩ => ?_
    subst hb
    exact fin_flat hfit (v0 := .int .i64 (Lib.indexByte s c)) (by show Rel Φ _ _; exact Rel.int _ _) (by simpa using he) (Go.RowKit.Below.refl _ _)
theorem app_uniq {c : UInt8} : ∀ {a x b y : Str}, a ++ c :: b = x ++ c :: y → c ∉ a → c ∉ x → a = x ∧ b = y
  | [], [], b, y, h, _, _ => by simpa using h
  | [], d :: x, b, y, h, _, h2 => by
    simp only [List.nil_append, List.cons_append, List.cons.injEq] at h
    exact absurd (by rw [h.1]; simp) h2
  | d :: a, [], b, y, h, h1, _ => by
    simp only [List.nil_append, List.cons_append, List.cons.injEq] at h
    exact absurd (by rw [h.1]; simp) h1
  | d :: a, d' :: x, b, y, h, h1, h2 => by
    simp only [List.cons_append, List.cons.injEq] at h
    obtain ⟨e1, e2⟩ := app_uniq h.2 (fun q => h1 (List.mem_cons_of_mem _ q)) (fun q => h2 (List.mem_cons_of_mem _ q))
    exact ⟨by rw [h.1, e1], e2⟩
theorem cut77_ok (s : Str) (c : UInt8) (hs : s.length ≤ 9223372036854775806) : (c ∉ s → ACalls Tryz.prog 77 [cS s, cS [c]] (.tup [cS s, cS [], cB false])) ∧ ∀ a b, s = a ++ c :: b → c ∉ a → ACalls Tryz.prog 77 [cS s, cS [c]] (.tup [cS a, cS b, cB true]) := by
  have i1 := index_ok s c
  refine ⟨fun h => ?_, fun a b hab hca => ?_⟩
  · rcases index_cases c s with ⟨h1, _⟩ | ⟨x, y, h1, _⟩
    · rw [h1] at i1
      refine ACalls.of_W (qs := [cS s, cS [], cB false]) [4, 5, 6] 23 Tryz.func77 (by kernel_rfl) rfl rfl rfl fun G => ?_
      refine W.initA (hw := ?_)
      repeat' (first | ((first | apply U_ | apply Lex.u | (apply Lex.g; exact rfl; exact rfl) | (apply Lex.gq; exact rfl; exact rfl)); (first | exact QX.Move TYok | exact QX.Asg TYok | exact QX.Bin TYok | exact QX.Len TYok | exact QX.Cut TYok | (apply Q_calld (i1); exact EvD.auto)); exact rfl) | apply RG.nil | apply Lex.nil | apply Then.n | apply Then.r | apply Then.x | apply InBlock.n | apply InBlock.r | apply InBlock.hit | (apply InBlock.miss; exact rfl) | apply W.seq | apply W.region | apply W.block | apply W.skip | apply W.ret | apply W.exit | (apply W.draw2 (id := 3) [0, 0, 3, 0, 0, 0, 32, 112, 248, 7, 1023, 2047] [[0], [7], [13, 14], [0], [7], [1], [18], [17, 19], [16, 20], [15], [21], []] 12 [(13, 1), (14, 128), (15, 24576), (16, 1), (17, 128), (18, 2), (19, 262144), (20, 655360), (21, 1114112), (4, 32768), (5, 2097152), (6, 0)] mixed (by kernel_rfl) rfl rfl) | (refine W.condA (ht := fun hb => ?_) (hf := fun hb => ?_) <;> (try simp at hb) <;> (try (exfalso; omega))))
      all_goals exact Fin.ret ResL.auto
    · exact absurd (by rw [h1]; simp) h
  · rcases index_cases c s with ⟨_, h2⟩ | ⟨x, y, h1, h2, h3⟩
    · exact absurd (by rw [hab]; simp) h2
    · have hxa : x = a ∧ y = b := app_uniq (by rw [← h1, hab]) h2 hca
      obtain ⟨rfl, rfl⟩ := hxa
      rw [h3] at i1
      have hlen : s.length = x.length + y.length + 1 := by rw [hab]; simp; omega
      have hc1 : ([c] : Str).length = 1 := rfl
      have e1 : s.take ((x.length : Int)).toNat = x := by rw [hab]; simp
      have e2 : s.drop ((x.length : Int) + (([c] : Str).length : Int)).toNat = y := by
        rw [show ((x.length : Int) + (([c] : Str).length : Int)).toNat = x.length + 1 by rw [hc1]; omega, hab]; simp
      refine ACalls.of_W (qs := [cS x, cS y, cB true]) [4, 5, 6] 23 Tryz.func77 (by kernel_rfl) rfl rfl rfl fun G => ?_
      refine W.initA (hw := ?_)
      repeat' (first | ((first | apply U_ | apply Lex.u | (apply Lex.g; exact rfl; exact rfl) | (apply Lex.gq; exact rfl; exact rfl)); (first | exact QX.Move TYok | exact QX.Asg TYok | exact QX.Bin TYok | exact QX.Len TYok | exact QX.Cut TYok | (apply Q_calld (i1); exact EvD.auto)); exact rfl) | apply RG.nil | apply Lex.nil | apply Then.n | apply Then.r | apply Then.x | apply InBlock.n | apply InBlock.r | apply InBlock.hit | (apply InBlock.miss; exact rfl) | apply W.seq | apply W.region | apply W.block | apply W.skip | apply W.ret | apply W.exit | (apply W.draw2 (id := 3) [0, 0, 3, 0, 0, 0, 32, 112, 248, 7, 1023, 2047] [[0], [7], [13, 14], [0], [7], [1], [18], [17, 19], [16, 20], [15], [21], []] 12 [(13, 1), (14, 128), (15, 24576), (16, 1), (17, 128), (18, 2), (19, 262144), (20, 655360), (21, 1114112), (4, 32768), (5, 2097152), (6, 0)] mixed (by kernel_rfl) rfl rfl) | (refine W.condA (ht := fun hb => ?_) (hf := fun hb => ?_) <;> (try simp at hb) <;> (try (exfalso; omega))))
      all_goals (rw [e1, e2]; exact Fin.ret ResL.auto)
theorem cut_no (s : Str) (c : UInt8) (hs : s.length ≤ 9223372036854775806) (h : c ∉ s) : ACalls Tryz.prog 47 [cS s, cS [c]] (.tup [cS s, cS [], cB false]) := by
  have i1 := (cut77_ok s c hs).1 h
  refine ACalls.of_W (qs := [cS s, cS [], cB false]) [4, 5, 6] 13 Tryz.func47 (by kernel_rfl) rfl rfl rfl fun G => ?_
  refine W.initA (hw := ?_)
  repeat' (first | ((first | apply U_); (first | exact QX.Move TYok | exact QX.Asg TYok | exact QX.Ext TYok | (apply Q_calld (i1); exact EvD.auto)); exact rfl) | apply RG.nil | apply Lex.nil | apply Then.n | apply Then.r | apply Then.x | apply InBlock.n | apply InBlock.r | apply InBlock.hit | (apply InBlock.miss; exact rfl) | apply W.seq | apply W.region | apply W.block | apply W.skip | apply W.ret | apply W.exit | (refine W.condA (ht := fun hb => ?_) (hf := fun hb => ?_) <;> (try simp at hb) <;> (try (exfalso; omega))))
  all_goals exact Fin.ret ResL.auto
theorem cut_yes (s a b : Str) (c : UInt8) (hs : s.length ≤ 9223372036854775806) (h : s = a ++ c :: b) (h2 : c ∉ a) : ACalls Tryz.prog 47 [cS s, cS [c]] (.tup [cS a, cS b, cB true]) := by
  have i1 := (cut77_ok s c hs).2 a b h h2
  refine ACalls.of_W (qs := [cS a, cS b, cB true]) [4, 5, 6] 13 Tryz.func47 (by kernel_rfl) rfl rfl rfl fun G => ?_
  refine W.initA (hw := ?_)
  repeat' (first | ((first | apply U_); (first | exact QX.Move TYok | exact QX.Asg TYok | exact QX.Ext TYok | (apply Q_calld (i1); exact EvD.auto)); exact rfl) | apply RG.nil | apply Lex.nil | apply Then.n | apply Then.r | apply Then.x | apply InBlock.n | apply InBlock.r | apply InBlock.hit | (apply InBlock.miss; exact rfl) | apply W.seq | apply W.region | apply W.block | apply W.skip | apply W.ret | apply W.exit | (refine W.condA (ht := fun hb => ?_) (hf := fun hb => ?_) <;> (try simp at hb) <;> (try (exfalso; omega))))
  all_goals exact Fin.ret ResL.auto
def txtF (r : Rat) : Str := txtZ r.num ++ [47] ++ txtZ r.den
theorem dec_len : ∀ (k : Nat) (u : Int), 0 ≤ u ∧ u < pk (k + 1) → (decZ u).length ≤ 5 * (k + 1)
  | 0, u, h => dec_short ⟨h.1, by have := h.2; simp only [pk] at this; omega⟩
  | k + 1, u, h => by
    by_cases h5 : u < 100000
    · have := dec_short ⟨h.1, h5⟩; omega
    · have e : pk (k + 1 + 1) = 65536 * pk (k + 1) := rfl
      have := dec_len k (u / 100000) (by omega)
      have e2 : (padZ (u % 100000)).length = 5 := by
        unfold padZ decZ
        rw [(dec_small (u % 100000).toNat (by omega)).2]; rfl
      rw [dec_div (by omega), List.length_append]
      omega
theorem txt_len {x : Int} (h : okZ x) : (txtZ x).length ≤ 376 := by
  have c := sgn_cases x
  unfold okZ at h
  rw [← pk75, show pk 75 = pk (74 + 1) from rfl] at h
  unfold txtZ
  split
  · have := dec_len 74 (-x) (by omega)
    simp only [List.length_cons]; omega
  · have := dec_len 74 x (by omega)
    omega
attribute [local irreducible] sgn mag gcdZ quoZ remZ txtZ readF fullZ fullE
theorem ftext_ok (r : Rat) (h : okF r) : GCalls Tryz.prog 3 powC 29 [zF r] (.pv (cS (txtF r))) := by
  have r1 := fright_yes r h
  have t1 := text_ok r.num h.1
  have t2 := text_ok r.den h.2
  have l1 := txt_len h.1
  have l2 := txt_len h.2
  unfold txtF
  generalize txtZ r.num = a at *
  generalize txtZ r.den = b at *
  refine GCalls.of_M TYok (qs := [cS (a ++ [47] ++ b)]) [.tmp 2] 14 Tryz.func29 (by kernel_rfl) rfl rfl rfl fun G hG => ?_
  refine W.initA (hw := ?_)
  repeat' (first | ((first | apply U_ | apply Lex.u | (apply Lex.g; exact rfl; exact rfl) | (apply Lex.gq; exact rfl; exact rfl)); (first | exact QX.Asg TYok | exact QX.Fld TYok | exact QX.Ld TYok | exact QX.Bin TYok | exact QX.Un TYok | (apply Q_calld (r1); exact EvD.auto) | (apply Q_callG hG (t1); exact EvL.auto; exact rfl) | (apply Q_callGd hG (t1); exact EvD.auto) | (apply Q_callG hG (t2); exact EvL.auto; exact rfl) | (apply Q_callGd hG (t2); exact EvD.auto)); exact rfl) | refine SX.Box TYok (h := ?_) | apply RG.nil | apply Lex.nil | apply Then.n | apply Then.r | apply Then.x | apply InBlock.n | apply InBlock.r | apply InBlock.hit | (apply InBlock.miss; exact rfl) | apply W.seq | apply W.region | apply W.block | apply W.skip | apply W.ret | apply W.exit | (apply W.draw2 (id := 3) [0, 1, 3, 7, 0, 16, 55, 127, 255] [[1], [6], [7], [8], [1], [10], [11], [9, 12], [13]] 9 [(6, 2), (7, 64), (8, 128), (9, 256), (10, 2), (11, 1024), (12, 2048), (13, 4608), (2, 8192)] mixed (by kernel_rfl) rfl rfl) | (refine W.condA (ht := fun hb => ?_) (hf := fun hb => ?_) <;> (try simp at hb) <;> (try (exfalso; omega))))
  all_goals exact FinM.ret ResM.auto
theorem ftext_no (s : Int) (l : List Int) (s' : Int) (l' : List Int) (hl : l.length ≤ 9223372036854775807) (hl' : l'.length ≤ 9223372036854775807) (h : rightFB s l s' l' = false) : ACalls Tryz.prog 29 [fB s l s' l'] (.pv (cS [])) := by
  have r1 := fright_ok s l s' l' hl hl'
  rw [h] at r1
  refine ACalls.of_W (qs := [cS []]) [2] 14 Tryz.func29 (by kernel_rfl) rfl rfl rfl fun G => ?_
  refine W.initA (hw := ?_)
  repeat' (first | ((first | apply U_ | apply Lex.u | (apply Lex.g; exact rfl; exact rfl) | (apply Lex.gq; exact rfl; exact rfl)); (first | exact QX.Asg TYok | exact QX.Fld TYok | exact QX.Ld TYok | exact QX.Bin TYok | exact QX.Un TYok | (apply Q_calld (r1); exact EvD.auto)); exact rfl) | refine SX.Box TYok (h := ?_) | apply RG.nil | apply Lex.nil | apply Then.n | apply Then.r | apply Then.x | apply InBlock.n | apply InBlock.r | apply InBlock.hit | (apply InBlock.miss; exact rfl) | apply W.seq | apply W.region | apply W.block | apply W.skip | apply W.ret | apply W.exit | (apply W.draw2 (id := 3) [0, 1, 3, 7, 0, 16, 55, 127, 255] [[1], [6], [7], [8], [1], [10], [11], [9, 12], [13]] 9 [(6, 2), (7, 64), (8, 128), (9, 256), (10, 2), (11, 1024), (12, 2048), (13, 4608), (2, 8192)] mixed (by kernel_rfl) rfl rfl) | (refine W.condA (ht := fun hb => ?_) (hf := fun hb => ?_) <;> (try simp at hb) <;> (try (exfalso; omega))))
  all_goals exact Fin.ret ResL.auto
end
section
def cutA (s : Str) : Str × Str := if Lib.indexByte s 47 = -1 then (s, []) else (s.take (Lib.indexByte s 47).toNat, s.drop ((Lib.indexByte s 47).toNat + 1))
theorem cutA_ok (s : Str) (hs : s.length ≤ 9223372036854775806) : ∃ b, ACalls Tryz.prog 47 [cS s, cS [47]] (.tup [cS (cutA s).1, cS (cutA s).2, cB b]) := by
  rcases index_cases 47 s with ⟨h1, h2⟩ | ⟨x, y, h1, h2, h3⟩
  · refine ⟨false, ?_⟩
    unfold cutA
    rw [if_pos h1]
    exact cut_no s 47 hs h2
  · refine ⟨true, ?_⟩
    unfold cutA
    rw [if_neg (by omega), h3]
    have e1 : s.take ((x.length : Int)).toNat = x := by rw [h1]; simp
    have e2 : s.drop (((x.length : Int)).toNat + 1) = y := by rw [h1]; simp
    rw [e1, e2]
    exact cut_yes s x y 47 hs h1 h2
def readFr (s : Str) : Option Rat :=
  if (readF (cutA s).1).2 = 0 ∧ (readF (cutA s).2).2 = 0 ∧ 0 < (readF (cutA s).2).1 ∧ gcdZ (readF (cutA s).1).1 (readF (cutA s).2).1 = 1 ∧ txtZ (readF (cutA s).1).1 ++ [47] ++ txtZ (readF (cutA s).2).1 = s then some (Rat.divInt (readF (cutA s).1).1 (readF (cutA s).2).1) else none
theorem readF_okZ (s : Str) : okZ (readF s).1 := by
  rcases readF_cases s with h | h
  · exact h.2.1
  · rw [h.2]; exact okZ.zero
theorem readFr_some {s : Str} {r : Rat} (h : readFr s = some r) : okF r ∧ txtF r = s ∧ r.num = (readF (cutA s).1).1 ∧ (r.den : Int) = (readF (cutA s).2).1 := by
  unfold readFr at h
  split at h
  · rename_i hc
    obtain ⟨h1, h2, h3, h4, h5⟩ := hc
    obtain rfl := Option.some.inj h
    obtain ⟨e1, e2⟩ := rat_of h3 h4
    refine ⟨⟨by rw [e1]; exact readF_okZ _, by rw [e2]; exact readF_okZ _⟩, by unfold txtF; rw [e1, e2]; exact h5, e1, e2⟩
  · cases h
def frV (o : Option Rat) : PV := match o with | some r => zF r | none => zF0
def frE (o : Option Rat) : Int := match o with | some _ => 0 | none => 2
attribute [local irreducible] sgn mag gcdZ quoZ remZ txtZ readF fullZ fullE
theorem fread_ok (s : Str) (hs : s.length ≤ 9223372036854775806) : GCalls Tryz.prog 3 powC 21 [cS s] (.tup [frV (readFr s), cI (frE (readFr s))]) := by
  obtain ⟨b, c1⟩ := cutA_ok s hs
  have hl : ∀ t : Str, t = (cutA s).1 ∨ t = (cutA s).2 → t.length ≤ 9223372036854775807 := fun t ht => by
    have e1 : (cutA s).1.length ≤ s.length := by unfold cutA; split <;> simp <;> omega
    have e2 : (cutA s).2.length ≤ s.length := by unfold cutA; split <;> simp <;> omega
    rcases ht with rfl | rfl <;> omega
  have d1 := readF_ok (cutA s).1 (hl _ (.inl rfl))
  have d2 := readF_ok (cutA s).2 (hl _ (.inr rfl))
  have op := readF_okZ (cutA s).1
  have oq := readF_okZ (cutA s).2
  have hdef : readFr s = if (readF (cutA s).1).2 = 0 ∧ (readF (cutA s).2).2 = 0 ∧ 0 < (readF (cutA s).2).1 ∧ gcdZ (readF (cutA s).1).1 (readF (cutA s).2).1 = 1 ∧ txtZ (readF (cutA s).1).1 ++ [47] ++ txtZ (readF (cutA s).2).1 = s then some (Rat.divInt (readF (cutA s).1).1 (readF (cutA s).2).1) else none := rfl
  generalize (readF (cutA s).1).1 = p at *
  generalize (readF (cutA s).1).2 = e at *
  generalize (readF (cutA s).2).1 = q at *
  generalize (readF (cutA s).2).2 = f at *
  generalize (cutA s).1 = u1 at *
  generalize (cutA s).2 = u2 at *
  by_cases hr : 0 < q ∧ gcdZ p q = 1
  · obtain ⟨e1, e2⟩ := rat_of hr.1 hr.2
    have okr : okF (Rat.divInt p q) := ⟨by rw [e1]; exact op, by rw [e2]; exact oq⟩
    have r1 := fright_yes _ okr
    have t1 := ftext_ok _ okr
    rw [show zF (Rat.divInt p q) = zF2 p q by show zF2 (Rat.divInt p q).num ((Rat.divInt p q).den : Int) = _; rw [e1, e2]] at r1 t1
    have et : txtF (Rat.divInt p q) = txtZ p ++ [47] ++ txtZ q := by unfold txtF; rw [e1, e2]
    rw [et] at t1
    by_cases hc : (e = 0 ∧ f = 0) ∧ txtZ p ++ [47] ++ txtZ q = s
    · rw [hdef, if_pos ⟨hc.1.1, hc.1.2, hr.1, hr.2, hc.2⟩]
      rw [show frV (some (Rat.divInt p q)) = zF2 p q by show zF2 (Rat.divInt p q).num ((Rat.divInt p q).den : Int) = _; rw [e1, e2], show frE (some (Rat.divInt p q)) = 0 from rfl]
      generalize txtZ p ++ [47] ++ txtZ q = tx at *
      have hbad : ¬ ((e = 0 ∧ f = 0) ∧ tx = s) → False := fun h => h hc
      have hbad2 : (e = 0 → f = 0 → ¬ tx = s) → False := fun h => h hc.1.1 hc.1.2 hc.2
      refine GCalls.of_M TYok (qs := [zF2 p q, cI 0]) [.cell 2 26, .tmp 3] 49 Tryz.func21 (by kernel_rfl) rfl rfl rfl fun G hG => ?_
      refine W.initA (hw := ?_)
      repeat' (first | (refine W.purgeR [(5, [0, 2, 8, 10, 11])] rfl (by repeat (first | exact PN.nil | apply PN.po rfl | (apply PN.pa; exact rfl; (repeat (first | (apply NR.cons; exact rfl) | exact NR.nil rfl))) | apply PN.a rfl | apply PN.s rfl | apply PN.u rfl | apply PN.m rfl | apply PN.k rfl | apply PN.i rfl | apply PN.skip)) (by repeat (first | exact PB.nil | (apply PB.one; exact rfl; (focus (first | (dsimp only; done) | (dsimp only; exact rfl) | exact rfl)); (focus (first | (dsimp only; done) | (dsimp only; exact rfl) | exact rfl)); exact rfl; (repeat (first | (apply NR.cons; exact rfl) | exact NR.nil rfl)))  | apply PB.cons rfl)) ?_) | ((first | apply U_ | (apply Ug_; exact rfl; exact rfl) | (apply Ugq_; exact rfl; exact rfl)); (first | exact QX.Move TYok | exact QX.Asg TYok | exact QX.Ld TYok | exact QX.Bin TYok | exact QX.Pick TYok | exact QX.Ext TYok | exact QX.Build TYok | (apply Q_calld (c1); exact EvD.auto) | (apply Q_calld (d1); exact EvD.auto) | (apply Q_calld (d2); exact EvD.auto) | (apply Q_calld (r1); exact EvD.auto) | (apply Q_callG hG (t1); exact EvL.auto; exact rfl) | (apply Q_callGd hG (t1); exact EvD.auto)); exact rfl) | refine SX.Alloc TYok (h := ?_) | refine SX.Store TYok (h := ?_) | apply RG.nil | apply Lex.nil | apply Then.n | apply Then.r | apply Then.x | apply InBlock.n | apply InBlock.r | apply InBlock.hit | (apply InBlock.miss; exact rfl) | apply W.seq | apply W.region | apply W.block | apply W.skip | apply W.ret | apply W.exit | (apply S_isnil TYok; exact rfl; exact rfl; exact rfl; exact Ev.auto; intro bn hnil) | (apply RG.gT; exact rfl; exact rfl; (first | assumption | decide)) | (apply RG.gF; exact rfl; exact rfl; (first | assumption | decide | (rw [ne_eq, Bool.not_eq_true]; assumption) | (rw [ne_eq, Bool.not_eq_false]; assumption)); exact rfl) | (refine W.condA (ht := fun hb => ?_) (hf := fun hb => ?_) <;> (try simp at hb) <;> (try (exfalso; first | exact hbad2 hb | exact hbad hb | omega))))
      all_goals first
        | exact FinM.ret ResM.auto
        | trace_state
    · rw [hdef, if_neg (fun h => hc ⟨⟨h.1, h.2.1⟩, h.2.2.2.2⟩)]
      generalize txtZ p ++ [47] ++ txtZ q = tx at *
      have hbad : (e = 0 ∧ f = 0) ∧ tx = s → False := hc
      show GCalls Tryz.prog 3 powC 21 [cS s] (.tup [zF0, cI 2])
      refine GCalls.of_M TYok (qs := [zF0, cI 2]) [.cell 2 26, .tmp 3] 49 Tryz.func21 (by kernel_rfl) rfl rfl rfl fun G hG => ?_
      refine W.initA (hw := ?_)
      repeat' (first | (refine W.purgeR [(5, [0, 2, 8, 10, 11])] rfl (by repeat (first | exact PN.nil | apply PN.po rfl | (apply PN.pa; exact rfl; (repeat (first | (apply NR.cons; exact rfl) | exact NR.nil rfl))) | apply PN.a rfl | apply PN.s rfl | apply PN.u rfl | apply PN.m rfl | apply PN.k rfl | apply PN.i rfl | apply PN.skip)) (by repeat (first | exact PB.nil | (apply PB.one; exact rfl; (focus (first | (dsimp only; done) | (dsimp only; exact rfl) | exact rfl)); (focus (first | (dsimp only; done) | (dsimp only; exact rfl) | exact rfl)); exact rfl; (repeat (first | (apply NR.cons; exact rfl) | exact NR.nil rfl)))  | apply PB.cons rfl)) ?_) | ((first | apply U_ | (apply Ug_; exact rfl; exact rfl) | (apply Ugq_; exact rfl; exact rfl)); (first | exact QX.Move TYok | exact QX.Asg TYok | exact QX.Ld TYok | exact QX.Bin TYok | exact QX.Pick TYok | exact QX.Ext TYok | exact QX.Build TYok | (apply Q_calld (c1); exact EvD.auto) | (apply Q_calld (d1); exact EvD.auto) | (apply Q_calld (d2); exact EvD.auto) | (apply Q_calld (r1); exact EvD.auto) | (apply Q_callG hG (t1); exact EvL.auto; exact rfl) | (apply Q_callGd hG (t1); exact EvD.auto)); exact rfl) | refine SX.Alloc TYok (h := ?_) | refine SX.Store TYok (h := ?_) | apply RG.nil | apply Lex.nil | apply Then.n | apply Then.r | apply Then.x | apply InBlock.n | apply InBlock.r | apply InBlock.hit | (apply InBlock.miss; exact rfl) | apply W.seq | apply W.region | apply W.block | apply W.skip | apply W.ret | apply W.exit | (apply S_isnil TYok; exact rfl; exact rfl; exact rfl; exact Ev.auto; intro bn hnil) | (apply RG.gT; exact rfl; exact rfl; (first | assumption | decide)) | (apply RG.gF; exact rfl; exact rfl; (first | assumption | decide | (rw [ne_eq, Bool.not_eq_true]; assumption) | (rw [ne_eq, Bool.not_eq_false]; assumption)); exact rfl) | (refine W.condA (ht := fun hb => ?_) (hf := fun hb => ?_) <;> (try simp at hb) <;> (try (exfalso; first | exact hbad hb | omega))))
      all_goals first
        | exact FinM.ret (ResM.cell rfl rfl rfl rfl zeroSubF (ResM.tmp rfl rfl PSub.rfl' ResM.nil))
        | trace_state
  · rw [hdef, if_neg (fun h => hr ⟨h.2.2.1, h.2.2.2.1⟩)]
    have hno : rightFB (sgn p) (digs (mag p)) (sgn q) (digs (mag q)) = false := by
      have c := sgn_cases q
      cases hx : rightFB (sgn p) (digs (mag p)) (sgn q) (digs (mag q)) with
      | false => rfl
      | true =>
        exfalso
        unfold rightFB at hx
        simp only [Bool.and_eq_true, decide_eq_true_iff] at hx
        obtain ⟨⟨_, h1⟩, hg⟩ := hx
        rw [val_mag, val_mag, sgn_mag, show mag q = q by omega] at hg
        exact hr ⟨by omega, hg⟩
    have lp := num_len op
    have lq := num_len oq
    have r1 := fright_ok (sgn p) (digs (mag p)) (sgn q) (digs (mag q)) (by omega) (by omega)
    rw [hno] at r1
    have t1 := ftext_no (sgn p) (digs (mag p)) (sgn q) (digs (mag q)) (by omega) (by omega) hno
    show GCalls Tryz.prog 3 powC 21 [cS s] (.tup [zF0, cI 2])
    refine GCalls.of_M TYok (qs := [zF0, cI 2]) [.cell 2 26, .tmp 3] 49 Tryz.func21 (by kernel_rfl) rfl rfl rfl fun G hG => ?_
    refine W.initA (hw := ?_)
    repeat' (first | (refine W.purgeR [(5, [0, 2, 8, 10, 11])] rfl (by repeat (first | exact PN.nil | apply PN.po rfl | (apply PN.pa; exact rfl; (repeat (first | (apply NR.cons; exact rfl) | exact NR.nil rfl))) | apply PN.a rfl | apply PN.s rfl | apply PN.u rfl | apply PN.m rfl | apply PN.k rfl | apply PN.i rfl | apply PN.skip)) (by repeat (first | exact PB.nil | (apply PB.one; exact rfl; (focus (first | (dsimp only; done) | (dsimp only; exact rfl) | exact rfl)); (focus (first | (dsimp only; done) | (dsimp only; exact rfl) | exact rfl)); exact rfl; (repeat (first | (apply NR.cons; exact rfl) | exact NR.nil rfl)))  | apply PB.cons rfl)) ?_) | ((first | apply U_ | (apply Ug_; exact rfl; exact rfl) | (apply Ugq_; exact rfl; exact rfl)); (first | exact QX.Move TYok | exact QX.Asg TYok | exact QX.Ld TYok | exact QX.Bin TYok | exact QX.Pick TYok | exact QX.Ext TYok | exact QX.Build TYok | (apply Q_calld (c1); exact EvD.auto) | (apply Q_calld (d1); exact EvD.auto) | (apply Q_calld (d2); exact EvD.auto) | (apply Q_calld (r1); exact EvD.auto) | (apply Q_calld (t1); exact EvD.auto)); exact rfl) | refine SX.Alloc TYok (h := ?_) | refine SX.Store TYok (h := ?_) | apply RG.nil | apply Lex.nil | apply Then.n | apply Then.r | apply Then.x | apply InBlock.n | apply InBlock.r | apply InBlock.hit | (apply InBlock.miss; exact rfl) | apply W.seq | apply W.region | apply W.block | apply W.skip | apply W.ret | apply W.exit | (apply S_isnil TYok; exact rfl; exact rfl; exact rfl; exact Ev.auto; intro bn hnil) | (apply RG.gT; exact rfl; exact rfl; (first | assumption | decide)) | (apply RG.gF; exact rfl; exact rfl; (first | assumption | decide | (rw [ne_eq, Bool.not_eq_true]; assumption) | (rw [ne_eq, Bool.not_eq_false]; assumption)); exact rfl) | (refine W.condA (ht := fun hb => ?_) (hf := fun hb => ?_) <;> (try simp at hb) <;> (try (exfalso; omega))))
    all_goals first
      | exact FinM.ret (ResM.cell rfl rfl rfl rfl zeroSubF (ResM.tmp rfl rfl PSub.rfl' ResM.nil))
      | trace_state
end
section
theorem sameBig_ok (s s' : Int) (a b : List Int) (hl : a.length ≤ 1000000) (hl' : b.length ≤ 1000000) : ACalls Tryz.prog 31 [aB s a, aB s' b] (.pv (cB (decide (s = s') && decide (a = b)))) := by
  by_cases h0 : s = s' ∧ a.length = b.length
  case neg =>
    have e : (decide (s = s') && decide (a = b)) = false := by
      rw [Bool.and_eq_false_iff, decide_eq_false_iff_not, decide_eq_false_iff_not]
      by_cases hs : s = s'
      · exact .inr fun e => h0 ⟨hs, by rw [e]⟩
      · exact .inl hs
    rw [e]
    refine ACalls.of_W (qs := [cB false]) [4] 38 Tryz.func31 (by kernel_rfl) rfl rfl rfl fun G => ?_
    refine W.initA (hw := ?_)
    repeat' (first | (exfalso; omega) | ((first | apply U_ | (apply Ug_; exact rfl; exact rfl) | (apply Ugq_; exact rfl; exact rfl) | apply Lex.u | (apply Lex.g; exact rfl; exact rfl) | (apply Lex.gq; exact rfl; exact rfl)); (first | exact QX.Move TYok | exact QX.Asg TYok | exact QX.Fld TYok | exact QX.Ld TYok | exact QX.Bin TYok | exact QX.Pick TYok | exact QX.Len TYok | exact QX.Idx TYok); exact rfl) | refine SX.Box TYok (h := ?_) | apply RG.nil | apply Lex.nil | apply Then.n | apply Then.r | apply Then.x | apply InBlock.n | apply InBlock.r | apply InBlock.hit | (apply InBlock.miss; exact rfl) | apply W.seq | apply W.region | apply W.block | apply W.skip | apply W.ret | apply W.exit | (apply RG.gT; exact rfl; exact rfl; (first | assumption | decide)) | (apply RG.gF; exact rfl; exact rfl; (first | assumption | decide | (rw [ne_eq, Bool.not_eq_true]; assumption) | (rw [ne_eq, Bool.not_eq_false]; assumption)); exact rfl) | (apply W.draw2 (id := 6) [0, 1, 0, 7, 15, 0, 32, 0, 224, 480, 1023] [[2], [27], [5], [28, 29], [30], [3], [32], [5], [33, 34], [35], [31, 36]] 11 [(27, 4), (28, 134217728), (29, 32), (30, 805306368), (31, 1073741824), (32, 8), (33, 4294967296), (34, 32), (35, 25769803776), (36, 34359738368), (37, 70866960384)] mixed (by kernel_rfl) rfl rfl) | (refine W.condA (ht := fun hb => ?_) (hf := fun hb => ?_) <;> (try simp at hb) <;> (try (exfalso; omega))))
    exact Fin.ret ResL.auto
  obtain ⟨rfl, hab⟩ := h0
  rw [decide_eq_true rfl, Bool.true_and]
  refine ACalls.of_W (qs := [cB (decide (a = b))]) [4] 38 Tryz.func31 (by kernel_rfl) rfl rfl rfl fun G => ?_
  refine W.initA (hw := ?_)
  repeat' (first | ((first | apply U_ | (apply Ug_; exact rfl; exact rfl) | (apply Ugq_; exact rfl; exact rfl) | apply Lex.u | (apply Lex.g; exact rfl; exact rfl) | (apply Lex.gq; exact rfl; exact rfl)); (first | exact QX.Move TYok | exact QX.Asg TYok | exact QX.Fld TYok | exact QX.Ld TYok | exact QX.Bin TYok | exact QX.Pick TYok | exact QX.Len TYok | exact QX.Idx TYok); exact rfl) | refine SX.Box TYok (h := ?_) | apply RG.nil | apply Lex.nil | apply Then.n | apply Then.r | apply Then.x | apply InBlock.n | apply InBlock.r | apply InBlock.hit | (apply InBlock.miss; exact rfl) | apply W.seq | apply W.region | apply W.block | apply W.skip | apply W.ret | apply W.exit | (apply RG.gT; exact rfl; exact rfl; (first | assumption | decide)) | (apply RG.gF; exact rfl; exact rfl; (first | assumption | decide | (rw [ne_eq, Bool.not_eq_true]; assumption) | (rw [ne_eq, Bool.not_eq_false]; assumption)); exact rfl) | (apply W.draw2 (id := 6) [0, 1, 0, 7, 15, 0, 32, 0, 224, 480, 1023] [[2], [27], [5], [28, 29], [30], [3], [32], [5], [33, 34], [35], [31, 36]] 11 [(27, 4), (28, 134217728), (29, 32), (30, 805306368), (31, 1073741824), (32, 8), (33, 4294967296), (34, 32), (35, 25769803776), (36, 34359738368), (37, 70866960384)] mixed (by kernel_rfl) rfl rfl) | (refine W.condA (ht := fun hb => ?_) (hf := fun hb => ?_) <;> (try simp at hb) <;> (try (exfalso; omega))))
  apply W.loopP (σ := Nat) 38 [2, 3] (fun k => k ≤ a.length ∧ a.take k = b.take k) (fun k => [(5, vI k)]) (fun _ => [(2, ⟨24, 2, [[.int .i64 s, .sl (a.map Lf.encI)]]⟩), (3, ⟨24, 2, [[.int .i64 s, .sl (b.map Lf.encI)]]⟩)]) (fun k => a.length - k) (0)
  case hp => repeat (first | exact Pick.nil | apply Pick.cons rfl)
  case h0 =>
    refine ⟨by simp, ?_⟩
    exact Le.auto
  case round =>
    rintro k ⟨g1, g2⟩
    apply W.norm (by repeat (first | exact App.nil | apply App.cons))
    repeat' (first | ((first | apply U_ | (apply Ug_; exact rfl; exact rfl) | (apply Ugq_; exact rfl; exact rfl) | apply Lex.u | (apply Lex.g; exact rfl; exact rfl) | (apply Lex.gq; exact rfl; exact rfl)); (first | exact QX.Move TYok | exact QX.Asg TYok | exact QX.Fld TYok | exact QX.Ld TYok | exact QX.Bin TYok | exact QX.Pick TYok | exact QX.Len TYok | exact QX.Idx TYok); exact rfl) | refine SX.Box TYok (h := ?_) | apply RG.nil | apply Lex.nil | apply Then.n | apply Then.r | apply Then.x | apply InBlock.n | apply InBlock.r | apply InBlock.hit | (apply InBlock.miss; exact rfl) | apply W.seq | apply W.region | apply W.block | apply W.skip | apply W.ret | apply W.exit | (apply RG.gT; exact rfl; exact rfl; (first | assumption | decide)) | (apply RG.gF; exact rfl; exact rfl; (first | assumption | decide | (rw [ne_eq, Bool.not_eq_true]; assumption) | (rw [ne_eq, Bool.not_eq_false]; assumption)); exact rfl) | (apply W.draw2 (id := 6) [0, 1, 0, 7, 15, 0, 32, 0, 224, 480, 1023] [[2], [27], [5], [28, 29], [30], [3], [32], [5], [33, 34], [35], [31, 36]] 11 [(27, 4), (28, 134217728), (29, 32), (30, 805306368), (31, 1073741824), (32, 8), (33, 4294967296), (34, 32), (35, 25769803776), (36, 34359738368), (37, 70866960384)] mixed (by kernel_rfl) rfl rfl) | (refine W.condA (ht := fun hb => ?_) (hf := fun hb => ?_) <;> (try simp at hb) <;> (try (exfalso; omega))))
    · rw [decide_eq_false (fun e => by subst e; omega)]
      exact Fin.ret ResL.auto
    · refine ⟨k + 1, ⟨by omega, ?_⟩, ?_, by omega⟩
      · rw [take_nth (by omega), take_nth (by omega), g2, hb]
      · exact Le.auto
    · obtain rfl : k = a.length := by omega
      rw [List.take_length, hab, List.take_length] at g2
      rw [decide_eq_true g2]
      exact Fin.ret ResL.auto
theorem sameBigZ_ok (x y : Int) (hx : okZ x) (hy : okZ y) : ACalls Tryz.prog 31 [zB x, zB y] (.pv (cB (decide (x = y)))) := by
  have h := sameBig_ok (sgn x) (sgn y) (digs (mag x)) (digs (mag y)) (by have := num_len hx; omega) (by have := num_len hy; omega)
  rw [show (decide (sgn x = sgn y) && decide (digs (mag x) = digs (mag y))) = decide (x = y) by
    rw [Bool.eq_iff_iff, Bool.and_eq_true, decide_eq_true_iff, decide_eq_true_iff, decide_eq_true_iff]
    exact ⟨fun h => num_inj h.1 h.2, fun h => by rw [h]; exact ⟨rfl, rfl⟩⟩] at h
  exact h
theorem same_frac (a b : Rat) : (decide (a.num = b.num) && decide ((a.den : Int) = b.den)) = decide (a = b) := by
  rw [← Bool.decide_and]
  exact decide_eq_decide.2 ⟨fun h => Rat.ext h.1 (by omega), fun h => by subst h; exact ⟨rfl, rfl⟩⟩
theorem few_ok (s : Int) (l : List Int) (s' : Int) (l' : List Int) (n : Int) (hl : l.length ≤ 9223372036854775807) (hl' : l'.length ≤ 9223372036854775807) : ACalls Tryz.prog 9 [fB s l s' l', cI n] (.pv (cB (decide ((l.length : Int) ≤ n) && decide ((l'.length : Int) ≤ n)))) := by
  refine ACalls.of_W (qs := [cB (decide ((l.length : Int) ≤ n) && decide ((l'.length : Int) ≤ n))]) [4] 19 Tryz.func9 (by kernel_rfl) rfl rfl rfl fun G => ?_
  refine W.initA (hw := ?_)
  repeat' (first | ((first | apply U_ | (apply Ug_; exact rfl; exact rfl) | (apply Ugq_; exact rfl; exact rfl)); (first | exact QX.Move TYok | exact QX.Asg TYok | exact QX.Fld TYok | exact QX.Ld TYok | exact QX.Bin TYok | exact QX.Pick TYok | exact QX.Len TYok); exact rfl) | refine SX.Box TYok (h := ?_) | apply RG.nil | apply Lex.nil | apply Then.n | apply Then.r | apply Then.x | apply InBlock.n | apply InBlock.r | apply InBlock.hit | (apply InBlock.miss; exact rfl) | apply W.seq | apply W.region | apply W.block | apply W.skip | apply W.ret | apply W.exit | (apply RG.gT; exact rfl; exact rfl; (first | assumption | decide)) | (apply RG.gF; exact rfl; exact rfl; (first | assumption | decide | (rw [ne_eq, Bool.not_eq_true]; assumption) | (rw [ne_eq, Bool.not_eq_false]; assumption)); exact rfl) | (refine W.condA (ht := fun hb => ?_) (hf := fun hb => ?_) <;> (try simp at hb) <;> (try (exfalso; omega))))
  all_goals exact Fin.ret ResL.auto
attribute [local irreducible] sgn mag gcdZ quoZ remZ txtZ readF fullZ fullE
theorem same_ok (a b : Rat) (ha : okF a) (hB : okF b) : ACalls Tryz.prog 14 [zF a, zF b] (.pv (cB (decide (a = b)))) := by
  have s1 := sameBigZ_ok a.num b.num ha.1 hB.1
  have s2 := sameBigZ_ok a.den b.den ha.2 hB.2
  rw [← same_frac]
  refine ACalls.of_W (qs := [cB (decide (a.num = b.num) && decide ((a.den : Int) = b.den))]) [4] 17 Tryz.func14 (by kernel_rfl) rfl rfl rfl fun G => ?_
  refine W.initA (hw := ?_)
  repeat' (first | ((first | apply U_ | (apply Ug_; exact rfl; exact rfl) | (apply Ugq_; exact rfl; exact rfl)); (first | exact QX.Move TYok | exact QX.Asg TYok | exact QX.Fld TYok | exact QX.Ld TYok | exact QX.Pick TYok | (apply Q_calld (s1); exact EvD.auto) | (apply Q_calld (s2); exact EvD.auto)); exact rfl) | refine SX.Box TYok (h := ?_) | apply RG.nil | apply Lex.nil | apply Then.n | apply Then.r | apply Then.x | apply InBlock.n | apply InBlock.r | apply InBlock.hit | (apply InBlock.miss; exact rfl) | apply W.seq | apply W.region | apply W.block | apply W.skip | apply W.ret | apply W.exit | (apply RG.gT; exact rfl; exact rfl; (first | assumption | decide)) | (apply RG.gF; exact rfl; exact rfl; (first | assumption | decide | (rw [ne_eq, Bool.not_eq_true]; assumption) | (rw [ne_eq, Bool.not_eq_false]; assumption)); exact rfl) | (refine W.condA (ht := fun hb => ?_) (hf := fun hb => ?_) <;> (try simp at hb) <;> (try (exfalso; omega))))
  all_goals exact Fin.ret ResL.auto
theorem Of_ok (p q : Int) (hp : i64B p) (hq : i64B q) (h0 : q ≠ 0) : ACalls Tryz.prog 19 [cI p, cI q] (.tup [zF (Rat.divInt p q), cI 0]) := by
  have z1 := ofZ_ok p hp
  have z2 := ofZ_ok q hq
  have n1 := new_ok p q (i64_ok hp) (i64_ok hq) h0
  generalize Rat.divInt p q = r at *
  refine ACalls.of_M TYok (qs := [zF r, cI 0]) [.cell 4 26, .tmp 5] 13 Tryz.func19 (by kernel_rfl) rfl rfl rfl fun G => ?_
  refine W.initA (hw := ?_)
  repeat' (first | ((first | apply U_); (first | exact QX.Move TYok | exact QX.Asg TYok | exact QX.Ext TYok | (apply Q_calld (z1); exact EvD.auto) | (apply Q_calld (z2); exact EvD.auto) | (apply Q_calld (n1); exact EvD.auto)); exact rfl) | refine SX.Alloc TYok (h := ?_) | refine SX.Store TYok (h := ?_) | apply RG.nil | apply Lex.nil | apply Then.n | apply Then.r | apply Then.x | apply InBlock.n | apply InBlock.r | apply InBlock.hit | (apply InBlock.miss; exact rfl) | apply W.seq | apply W.region | apply W.block | apply W.skip | apply W.ret | apply W.exit | (refine W.condA (ht := fun hb => ?_) (hf := fun hb => ?_) <;> (try simp at hb) <;> (try (exfalso; omega))))
  all_goals exact FinM.ret ResM.auto
theorem Of_zero (p : Int) (hp : i64B p) : ACalls Tryz.prog 19 [cI p, cI 0] (.tup [zF0, cI 15]) := by
  have z1 := ofZ_ok p hp
  have z2 := ofZ_ok 0 (by unfold i64B; omega)
  have n1 := new_zero p (i64_ok hp)
  refine ACalls.of_M TYok (qs := [zF0, cI 15]) [.cell 4 26, .tmp 5] 13 Tryz.func19 (by kernel_rfl) rfl rfl rfl fun G => ?_
  refine W.initA (hw := ?_)
  repeat' (first | ((first | apply U_); (first | exact QX.Move TYok | exact QX.Asg TYok | exact QX.Ext TYok | (apply Q_calld (z1); exact EvD.auto) | (apply Q_calld (z2); exact EvD.auto) | (apply Q_calld (n1); exact EvD.auto)); exact rfl) | refine SX.Alloc TYok (h := ?_) | refine SX.Store TYok (h := ?_) | apply RG.nil | apply Lex.nil | apply Then.n | apply Then.r | apply Then.x | apply InBlock.n | apply InBlock.r | apply InBlock.hit | (apply InBlock.miss; exact rfl) | apply W.seq | apply W.region | apply W.block | apply W.skip | apply W.ret | apply W.exit | (refine W.condA (ht := fun hb => ?_) (hf := fun hb => ?_) <;> (try simp at hb) <;> (try (exfalso; omega))))
  all_goals exact FinM.ret ResM.auto
theorem of_ok (p q : Int) (hp : i64B p) (hq : i64B q) (h0 : q ≠ 0) : ACalls Tryz.prog 35 [cI p, cI q] (.pv (zF (Rat.divInt p q))) := by
  have n1 := Of_ok p q hp hq h0
  generalize Rat.divInt p q = r at *
  refine ACalls.of_M TYok (qs := [zF r]) [.cell 4 26] 14 Tryz.func35 (by kernel_rfl) rfl rfl rfl fun G => ?_
  refine W.initA (hw := ?_)
  repeat' (first | ((first | apply U_); (first | exact QX.Move TYok | exact QX.Asg TYok | exact QX.Ld TYok | exact QX.Ext TYok | (apply Q_calld (n1); exact EvD.auto)); exact rfl) | refine SX.Alloc TYok (h := ?_) | refine SX.Store TYok (h := ?_) | apply RG.nil | apply Lex.nil | apply Then.n | apply Then.r | apply Then.x | apply InBlock.n | apply InBlock.r | apply InBlock.hit | (apply InBlock.miss; exact rfl) | apply W.seq | apply W.region | apply W.block | apply W.skip | apply W.ret | apply W.exit | (refine W.condA (ht := fun hb => ?_) (hf := fun hb => ?_) <;> (try simp at hb) <;> (try (exfalso; omega))))
  all_goals exact FinM.ret ResM.auto
end
section
theorem k1 : okF (Rat.divInt 1 2) ∧ okF (Rat.divInt 1 3) ∧ okF (Rat.divInt 5 6) ∧ okF (Rat.divInt 1 6) ∧ okF (Rat.divInt 3 2) ∧ okF (Rat.divInt (-3) 2) ∧ okF (Rat.divInt (-1) 2) ∧ okF (Rat.divInt (-1) 3) ∧ okF (Rat.divInt 0 7) := by
  unfold okF okZ; decide +kernel
theorem k2 : addOk (Rat.divInt 1 2) (Rat.divInt 1 3) ∧ addOk (Rat.divInt 1 2) (-Rat.divInt 1 3) ∧ mulOk (Rat.divInt 1 2) (Rat.divInt 1 3) ∧ divOk (Rat.divInt 1 2) (Rat.divInt 1 3) := by
  unfold addOk mulOk divOk sumOk okZ; decide +kernel
theorem k3 : Rat.divInt 1 2 + Rat.divInt 1 3 = Rat.divInt 5 6 ∧ Rat.divInt 1 2 - Rat.divInt 1 3 = Rat.divInt 1 6 ∧ Rat.divInt 1 2 * Rat.divInt 1 3 = Rat.divInt 1 6 ∧ Rat.divInt 1 2 / Rat.divInt 1 3 = Rat.divInt 3 2 ∧ Rat.divInt 6 (-4) = Rat.divInt (-3) 2 := by decide +kernel
theorem k4 : txtF (Rat.divInt 5 6) = [53, 47, 54] ∧ txtF (Rat.divInt 1 6) = [49, 47, 54] ∧ txtF (Rat.divInt 3 2) = [51, 47, 50] ∧ txtF (Rat.divInt (-3) 2) = [45, 51, 47, 50] ∧ txtF (Rat.divInt 0 7) = [48, 47, 49] := by decide +kernel
theorem k5 : cmpR (Rat.divInt (-1) 2) (Rat.divInt (-1) 3) = -1 ∧ quoZ (Rat.divInt (-3) 2).num (Rat.divInt (-3) 2).den = -2 := by decide +kernel
theorem k6 : readFr [50, 47, 52] = none ∧ readFr [45, 51, 47, 50] = some (Rat.divInt (-3) 2) := by decide +kernel
theorem k7 : (Rat.divInt 1 3).num ≠ 0 := by decide +kernel
theorem k8 : rightFB 0 [] 0 [] = false := by decide +kernel
attribute [local irreducible] sgn mag gcdZ quoZ remZ txtZ readF fullZ fullE txtF readFr cmpR Rat.divInt
theorem small_ok : GCalls Tryz.prog 3 powC 8 [] (.pv (cB true)) := by
  obtain ⟨o12, o13, o56, o16, o32, om32, om12, om13, o07⟩ := k1
  obtain ⟨a1, a2, m1, d1⟩ := k2
  obtain ⟨e1, e2, e3, e4, e5⟩ := k3
  obtain ⟨x1, x2, x3, x4, x5⟩ := k4
  have i64 : ∀ n : Int, -9 ≤ n → n ≤ 9 → i64B n := fun n h h' => by unfold i64B; omega
  have f1 := of_ok 1 2 (i64 _ (by decide) (by decide)) (i64 _ (by decide) (by decide)) (by decide)
  have f2 := of_ok 1 3 (i64 _ (by decide) (by decide)) (i64 _ (by decide) (by decide)) (by decide)
  have f3 := Of_zero 1 (i64 _ (by decide) (by decide))
  have f4 := of_ok 6 (-4) (i64 _ (by decide) (by decide)) (i64 _ (by decide) (by decide)) (by decide)
  have f5 := of_ok 0 7 (i64 _ (by decide) (by decide)) (i64 _ (by decide) (by decide)) (by decide)
  have f6 := of_ok (-1) 2 (i64 _ (by decide) (by decide)) (i64 _ (by decide) (by decide)) (by decide)
  have f7 := of_ok (-1) 3 (i64 _ (by decide) (by decide)) (i64 _ (by decide) (by decide)) (by decide)
  have f8 := of_ok (-3) 2 (i64 _ (by decide) (by decide)) (i64 _ (by decide) (by decide)) (by decide)
  rw [e5] at f4
  have p1 := add_yes _ _ o12 o13 a1
  rw [e1] at p1
  have p2 := fsub_yes _ _ o12 o13 a2
  rw [e2] at p2
  have p3 := fmul_yes _ _ o12 o13 m1
  rw [e3] at p3
  have p4 := fdiv_yes _ _ o12 o13 k7 d1
  rw [e4] at p4
  have q1 := fread_ok [50, 47, 52] (by decide)
  rw [k6.1] at q1
  have q2 := fread_ok [45, 51, 47, 50] (by decide)
  rw [k6.2] at q2
  replace q1 : GCalls Tryz.prog 3 powC 21 [cS [50, 47, 52]] (.tup [zF0, cI 2]) := q1
  replace q2 : GCalls Tryz.prog 3 powC 21 [cS [45, 51, 47, 50]] (.tup [zF (Rat.divInt (-3) 2), cI 0]) := q2
  have t1 := ftext_ok _ o56
  rw [x1] at t1
  have t2 := ftext_ok _ o16
  rw [x2] at t2
  have t3 := ftext_ok _ o32
  rw [x3] at t3
  have t4 := ftext_ok _ om32
  rw [x4] at t4
  have t5 := ftext_ok _ o07
  rw [x5] at t5
  have c1 := fcmp_ok _ _ om12 om13
  rw [k5.1] at c1
  have l1 := floor_ok _ om32
  rw [k5.2] at l1
  have z1 := ofZ_ok (-2) (i64 _ (by decide) (by decide))
  have okm : okZ (-2) := i64_ok (i64 _ (by decide) (by decide))
  have s1 := sameBigZ_ok (-2) (-2) okm okm
  rw [decide_eq_true rfl] at s1
  have s2 := same_ok _ _ om32 om32
  rw [decide_eq_true rfl] at s2
  have r1 := fright_yes _ o12
  have r2 := fright_ok 0 [] 0 [] (by decide) (by decide)
  rw [k8] at r2
  clear e1 e2 e3 e4 e5 x1 x2 x3 x4 x5 a1 a2 m1 d1 o12 o13 o56 o16 o32 om32 om12 om13 o07
  generalize Rat.divInt 1 2 = g1 at *
  generalize Rat.divInt 1 3 = g2 at *
  generalize Rat.divInt 5 6 = g3 at *
  generalize Rat.divInt 1 6 = g4 at *
  generalize Rat.divInt 3 2 = g5 at *
  generalize Rat.divInt (-3) 2 = g6 at *
  generalize Rat.divInt (-1) 2 = g7 at *
  generalize Rat.divInt (-1) 3 = g8 at *
  generalize Rat.divInt 0 7 = g9 at *
  refine GCalls.of_M TYok (qs := [cB true]) [.tmp 0] 139 Tryz.func8 (by kernel_rfl) rfl rfl rfl fun G hG => ?_
  refine W.initA (hw := ?_)
  repeat' (first | (refine W.purgeR [(3, [1, 2]), (4, [1, 2, 4]), (5, [1, 2, 4, 5, 6]), (6, [1, 2, 4, 5, 6, 7, 8]), (7, [1, 2, 4, 5, 6, 7, 8, 9, 10]), (8, [1, 4, 5, 6, 7, 8, 9, 10, 11, 12]), (9, [1, 4, 5, 6, 7, 8, 9, 10, 11, 12, 14]), (10, [1, 4, 5, 6, 7, 8, 9, 10, 11, 12, 14, 15, 16])] rfl (by repeat (first | exact PN.nil | apply PN.po rfl | (apply PN.pa; exact rfl; (repeat (first | (apply NR.cons; exact rfl) | exact NR.nil rfl))) | apply PN.a rfl | apply PN.s rfl | apply PN.u rfl | apply PN.m rfl | apply PN.k rfl | apply PN.i rfl | apply PN.skip)) (by repeat (first | exact PB.nil | (apply PB.one; exact rfl; (focus (first | (dsimp only; done) | (dsimp only; exact rfl) | exact rfl)); (focus (first | (dsimp only; done) | (dsimp only; exact rfl) | exact rfl)); exact rfl; (repeat (first | (apply NR.cons; exact rfl) | exact NR.nil rfl)))  | apply PB.cons rfl)) ?_) | ((first | apply U_ | (apply Ug_; exact rfl; exact rfl) | (apply Ugq_; exact rfl; exact rfl) | apply Lex.u | (apply Lex.g; exact rfl; exact rfl) | (apply Lex.gq; exact rfl; exact rfl)); (first | exact QX.Move TYok | exact QX.Asg TYok | exact QX.Ld TYok | exact QX.Bin TYok | exact QX.Pick TYok | exact QX.Un TYok | exact QX.Ext TYok | exact QX.Build TYok | (apply Q_calld (f1); exact EvD.auto) | (apply Q_calld (f2); exact EvD.auto) | (apply Q_calld (f3); exact EvD.auto) | (apply Q_calld (f4); exact EvD.auto) | (apply Q_calld (f5); exact EvD.auto) | (apply Q_calld (f6); exact EvD.auto) | (apply Q_calld (f7); exact EvD.auto) | (apply Q_calld (f8); exact EvD.auto) | (apply Q_calld (p1); exact EvD.auto) | (apply Q_calld (p2); exact EvD.auto) | (apply Q_calld (p3); exact EvD.auto) | (apply Q_calld (p4); exact EvD.auto) | (apply Q_callG hG (q1); exact EvL.auto; exact rfl) | (apply Q_callGd hG (q1); exact EvD.auto) | (apply Q_callG hG (q2); exact EvL.auto; exact rfl) | (apply Q_callGd hG (q2); exact EvD.auto) | (apply Q_callG hG (t1); exact EvL.auto; exact rfl) | (apply Q_callGd hG (t1); exact EvD.auto) | (apply Q_callG hG (t2); exact EvL.auto; exact rfl) | (apply Q_callGd hG (t2); exact EvD.auto) | (apply Q_callG hG (t3); exact EvL.auto; exact rfl) | (apply Q_callGd hG (t3); exact EvD.auto) | (apply Q_callG hG (t4); exact EvL.auto; exact rfl) | (apply Q_callGd hG (t4); exact EvD.auto) | (apply Q_callG hG (t5); exact EvL.auto; exact rfl) | (apply Q_callGd hG (t5); exact EvD.auto) | (apply Q_calld (c1); exact EvD.auto) | (apply Q_calld (l1); exact EvD.auto) | (apply Q_calld (z1); exact EvD.auto) | (apply Q_calld (s1); exact EvD.auto) | (apply Q_calld (s2); exact EvD.auto) | (apply Q_calld (r1); exact EvD.auto) | (apply Q_calld (r2); exact EvD.cons Ev.auto zeroSubF EvD.nil)); exact rfl) | refine SX.Alloc TYok (h := ?_) | refine SX.Store TYok (h := ?_) | apply RG.nil | apply Lex.nil | apply Then.n | apply Then.r | apply Then.x | apply InBlock.n | apply InBlock.r | apply InBlock.hit | (apply InBlock.miss; exact rfl) | apply W.seq | apply W.region | apply W.block | apply W.skip | apply W.ret | apply W.exit | (apply S_isnil TYok; exact rfl; exact rfl; exact rfl; exact Ev.auto; intro bn hnil) | (apply RG.gT; exact rfl; exact rfl; (first | assumption | decide)) | (apply RG.gF; exact rfl; exact rfl; (first | assumption | decide | (rw [ne_eq, Bool.not_eq_true]; assumption) | (rw [ne_eq, Bool.not_eq_false]; assumption)); exact rfl) | (apply W.draw2 (id := 11) [0, 1, 3, 7, 15, 31, 63, 127, 255, 511, 1023, 2047, 4095, 8191, 16383, 32767, 65535, 131071, 262143, 524287, 1048575, 2097151, 4194303, 4194303, 16777215, 33554431, 67108863, 134217727, 268435455, 536870911, 1073741823, 2147483647, 4294967295, 8589934591, 17179869183, 34359738367] [[17], [104], [105], [105], [106, 107, 105], [108, 105], [105, 109], [110], [111], [112, 111], [111], [113, 114, 111], [111, 115], [116], [14, 117], [118, 117], [117, 119], [120], [16, 121], [122, 121], [121, 123], [124], [15, 125], [125], [126, 127, 125], [125, 128], [129], [1, 130], [131, 130], [130, 132], [133], [134], [135, 134], [136, 134], [134, 137], [138]] 36 [(104, 131072), (105, 20282409603651670423947251286016), (106, 40564819207303340847894502572032), (107, 40564819207303340847894502572032), (108, 283953734451123385935261518004224), (109, 365083372865730067631050523148288), (110, 689601926524156794414206543724544), (111, 1298074214633706907132624082305024), (112, 2596148429267413814265248164610048), (113, 7788445287802241442795744493830144), (114, 2596148429267413814265248164610048), (115, 33749929580476379585448226139930624), (116, 44134523297546034842509218798370816), (117, 83076749736557242056487941267521536), (118, 166153499473114484112975882535059456), (119, 498460498419343452338927647605129216), (120, 830767497365572420564879412675215360), (121, 1329227995784915872903807060280344576), (122, 2658455991569831745807614120560754688), (123, 7975367974709495237422842361682067456), (124, 13292279957849158729038070602803445760), (125, 21267647932558653966460912964485513216), (126, 42535295865117307932921825928971059200), (127, 42535295865117307932921825928971026432), (128, 297747071055821155530452781502797185024), (129, 382817662786055771396296433360739237888), (130, 680564733841876926926749214863536422912), (131, 1361129467683753853853498429727072845826), (132, 4083388403051261561560495289181218537472), (133, 6805647338418769269267492148635364229120), (134, 10889035741470030830827987437816582766592), (135, 21778071482940061661655974875633165533184), (136, 65334214448820184984967924626899496599552), (137, 108890357414700308308279874378165827665920), (138, 196002643346460554954903773880698489798656), (0, 348449143727040986586495598010130648530944)] mixed (by kernel_rfl) rfl rfl) | (refine W.condA (ht := fun hb => ?_) (hf := fun hb => ?_) <;> (try simp at hb) <;> (try (exfalso; omega))))
  all_goals first
    | exact FinM.ret ResM.auto
    | exact FinM.ret (ResM.tmp rfl rfl (PSub.of_eq (congrArg (fun b => PV.one (Cell.bool b)) (by decide))) ResM.nil)
    | trace_state
end
end Go.Proofs.YtipghibmgfhmpaaGreatDoor
end
