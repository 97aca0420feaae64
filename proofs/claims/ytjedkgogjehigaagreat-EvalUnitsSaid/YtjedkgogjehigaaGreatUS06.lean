/-
  Part 6 of what the proof rests on.
-/
import Derived.Test.YtjedkgogjehigaaGreatUS04
import Derived.Lib.ItoaNum
import Derived.Lib.Join
import Derived.Lib.Repeat
import Derived.Lib.SlTrimSet
import Derived.Test.YtjedkgogjehigaaGreatUS05
import Derived.Test.YtjedkgogjehigaaGreatUS03
import Derived.Laws.IdiomStrings
section
set_option linter.unusedVariables false
set_option linter.unusedSimpArgs false
namespace Lf
section
theorem split_at {l : List Int} {j : Nat} (h : j < l.length) : val l = val (l.take j) + pw j * (nth l j + 1048576 * val (l.drop (j + 1))) := by
  rw [val_split l (i := j) (by omega), val_drop h]
theorem low_at {l : List Int} (h : Dig l) {j : Nat} (hj : j ≤ l.length) : 0 ≤ val (l.take j) ∧ val (l.take j) < pw j := by
  have h1 := val_lo (h.take j)
  have h2 := val_hi (h.take j)
  rw [List.length_take, Nat.min_eq_left hj] at h2
  exact ⟨h1, h2⟩
theorem nth_dropK {l : List Int} {k j : Nat} : nth (l.drop k) j = nth l (k + j) := by simp [nth, List.getD]
/-- what is known of a window of n + 1 digits, and of n digits that divide it -/
structure Win (W V p top u2 v1 v2 : Int) : Prop where
  p0 : 0 < p
  w : ∃ l, 0 ≤ l ∧ l < p ∧ W = l + p * (u2 + 1048576 * top)
  v : ∃ l, 0 ≤ l ∧ l < p ∧ V = l + p * (v2 + 1048576 * v1)
  u2 : 0 ≤ u2 ∧ u2 < 1048576
  v2 : 0 ≤ v2 ∧ v2 < 1048576
  v1 : 0 < v1 ∧ v1 < 1048576
  t : 0 ≤ top
theorem Win.low {W V p top u2 v1 v2 q : Int} (h : Win W V p top u2 v1 v2) (hq : 0 ≤ q) (hw : q * V ≤ W) : q * (v2 + 1048576 * v1) ≤ u2 + 1048576 * top := by
  obtain ⟨l, h1, h2, h3⟩ := h.w
  obtain ⟨m, h4, h5, h6⟩ := h.v
  have hp := h.p0
  have e : q * V = q * m + p * (q * (v2 + 1048576 * v1)) := by rw [h6]; grind
  have h7 := Int.mul_nonneg hq h4
  have h8 : p * (q * (v2 + 1048576 * v1)) < p * (u2 + 1048576 * top + 1) := by
    rw [Int.mul_add p _ 1]; omega
  have := Int.lt_of_mul_lt_mul_left h8 (by omega)
  omega
theorem Win.lower {W V p top u2 v1 v2 q : Int} (h : Win W V p top u2 v1 v2) (hq : 0 ≤ q) (hw : q * V ≤ W) : q * v1 ≤ top := by
  have h1 := h.low hq hw
  have h2 := Int.mul_nonneg hq h.v2.1
  have h3 := h.u2
  have e : q * (v2 + 1048576 * v1) = q * v2 + 1048576 * (q * v1) := by grind
  rw [e] at h1
  omega
theorem Win.dec {W V p top u2 v1 v2 q g r : Int} (h : Win W V p top u2 v1 v2) (hq : 0 ≤ q) (hw : q * V ≤ W) (hg : g * v1 + r = top) (ht : g * v2 > r * 1048576 + u2) : q ≤ g - 1 := by
  have h1 := h.low hq hw
  have h2 : 0 ≤ v2 + 1048576 * v1 := by have := h.v2; have := h.v1; omega
  by_cases hc : q ≤ g - 1
  · exact hc
  · have h3 : g * (v2 + 1048576 * v1) ≤ q * (v2 + 1048576 * v1) := Int.mul_le_mul_of_nonneg_right (by omega) h2
    have e : g * (v2 + 1048576 * v1) = g * v2 + 1048576 * (g * v1) := by grind
    rw [e] at h3
    omega
theorem Win.upper {W V p top u2 v1 v2 q g r : Int} (h : Win W V p top u2 v1 v2) (hq : 0 ≤ q) (hw : W < q * V + V) (hg : g * v1 + r = top) (hb : g < 1048576) (ht : g * v2 ≤ r * 1048576 + u2) : g ≤ q + 1 := by
  obtain ⟨l, h1, h2, h3⟩ := h.w
  obtain ⟨m, h4, h5, h6⟩ := h.v
  have hp := h.p0
  by_cases hc : g ≤ q + 1
  · exact hc
  · have hv0 : 0 ≤ V := by
      have := Int.mul_nonneg (show 0 ≤ p by omega) (show 0 ≤ v2 + 1048576 * v1 by have := h.v2; have := h.v1; omega)
      omega
    have e1 : q * V + V ≤ (g - 1) * V := by
      have : (q + 1) * V ≤ (g - 1) * V := Int.mul_le_mul_of_nonneg_right (by omega) hv0
      have e : (q + 1) * V = q * V + V := by grind
      omega
    have e2 : (g - 1) * V ≤ (g - 1) * (p * (v2 + 1048576 * v1 + 1)) := Int.mul_le_mul_of_nonneg_left (by rw [h6, Int.mul_add p _ 1]; omega) (by omega)
    have e3 : g * (v2 + 1048576 * v1) ≤ u2 + 1048576 * top := by
      have e : g * (v2 + 1048576 * v1) = g * v2 + 1048576 * (g * v1) := by grind
      rw [e]; omega
    have e4 : p * (g * (v2 + 1048576 * v1)) ≤ p * (u2 + 1048576 * top) := Int.mul_le_mul_of_nonneg_left e3 (by omega)
    have e5 : p * (g * (v2 + 1048576 * v1)) < p * ((g - 1) * (v2 + 1048576 * v1 + 1)) := by
      have e : (g - 1) * (p * (v2 + 1048576 * v1 + 1)) = p * ((g - 1) * (v2 + 1048576 * v1 + 1)) := by grind
      omega
    have e6 := Int.lt_of_mul_lt_mul_left e5 (by omega)
    have e7 : (g - 1) * (v2 + 1048576 * v1 + 1) = g * (v2 + 1048576 * v1) - (v2 + 1048576 * v1) + g - 1 := by grind
    have := h.v1
    have := h.v2
    omega
/-- long division, with i digits of the quotient still to come -/
structure DivI (A V : Int) (n m : Nat) (U Q : List Int) (i : Nat) : Prop where
  ulen : U.length = m + n
  udig : Dig U
  qlen : Q.length = m
  qdig : Dig Q
  small : val (U.drop i) < V
  eq : A = val U + V * (pw i * val (Q.drop i))
theorem DivI.zero {A V : Int} {n m : Nat} {U Q : List Int} {k : Nat} (h : DivI A V n m U Q (k + 1)) (hk : k < m) (hV : V < pw n) : val (U.drop (k + n + 1)) = 0 := by
  have h1 := h.small
  have h2 := h.ulen
  have e := val_split (U.drop (k + 1)) (i := n) (by simp; omega)
  rw [List.drop_drop, show k + 1 + n = k + n + 1 by omega] at e
  have h3 := val_lo ((h.udig.drop (k + 1)).take n)
  have h4 := val_lo (h.udig.drop (k + n + 1))
  by_cases hz : val (U.drop (k + n + 1)) = 0
  · exact hz
  · have : pw n * 1 ≤ pw n * val (U.drop (k + n + 1)) := Int.mul_le_mul_of_nonneg_left (by omega) (by have := pw_pos n; omega)
    omega
theorem DivI.window {A V : Int} {n m : Nat} {U Q : List Int} {k : Nat} (h : DivI A V n m U Q (k + 1)) (hk : k < m) (hV : V < pw n) : val ((U.drop k).take (n + 1)) = val (U.drop k) := by
  have h2 := h.ulen
  have e := val_split (U.drop k) (i := n + 1) (by simp; omega)
  rw [List.drop_drop, show k + (n + 1) = k + n + 1 by omega, h.zero hk hV] at e
  rw [e]; simp
theorem DivI.win {A : Int} {n m : Nat} {U Q v : List Int} {k : Nat} (h : DivI A (val v) n m U Q (k + 1)) (hk : k < m) (hv : Norm v) (hn : v.length = n) (h2 : 2 ≤ n) :
    Win (val (U.drop k)) (val v) (pw (n - 2)) (nth U (k + n) * 1048576 + nth U (k + n - 1)) (nth U (k + n - 2)) (nth v (n - 1)) (nth v (n - 2)) := by
  have hU := h.ulen
  have hVn : val v < pw n := by rw [← hn]; exact val_hi hv.dig
  have hz := h.zero hk hVn
  have d0 := h.udig.nth (show k + n < U.length by omega)
  have d1 := h.udig.nth (show k + n - 1 < U.length by omega)
  have d2 := h.udig.nth (show k + n - 2 < U.length by omega)
  have t1 := topD_nth v (by rintro rfl; simp at hn; omega)
  have t2 := hv.top
  rw [t1, hn] at t2
  have w1 := hv.dig.nth (show n - 1 < v.length by omega)
  have w2 := hv.dig.nth (show n - 2 < v.length by omega)
  refine ⟨pw_pos _, ⟨val ((U.drop k).take (n - 2)), (low_at (h.udig.drop k) (by simp; omega)).1, (low_at (h.udig.drop k) (by simp; omega)).2, ?_⟩, ⟨val (v.take (n - 2)), (low_at hv.dig (by omega)).1, (low_at hv.dig (by omega)).2, ?_⟩, d2, w2, by omega, by omega⟩
  · rw [split_at (l := U.drop k) (j := n - 2) (by simp; omega), List.drop_drop, nth_dropK, show k + (n - 2) = k + n - 2 by omega, show k + (n - 2 + 1) = k + n - 1 by omega,
      val_drop (l := U) (i := k + n - 1) (by omega), show k + n - 1 + 1 = k + n by omega, val_drop (l := U) (i := k + n) (by omega), hz]
    congr 3; omega
  · rw [split_at (l := v) (j := n - 2) (by omega), show n - 2 + 1 = n - 1 by omega, val_drop (l := v) (i := n - 1) (by omega), show n - 1 + 1 = n by omega, List.drop_of_length_le (by omega)]
    simp [val]
theorem DivI.step {A V : Int} {n m : Nat} {U Q : List Int} {k : Nat} (h : DivI A V n m U Q (k + 1)) (hk : k < m) (hV : V < pw n) (hV0 : 0 < V) {q : Int} (hq : 0 ≤ q ∧ q < 1048576) (hw : q * V ≤ val (U.drop k)) (hw2 : val (U.drop k) < q * V + V) :
    DivI A V n m (U.take k ++ digL (n + 1) (val (U.drop k) - q * V) ++ U.drop (k + n + 1)) (Q.set k q) k := by
  have hU := h.ulen
  have hQ := h.qlen
  have hz := h.zero hk hV
  have hp : pw n < pw (n + 1) := pw_lt (Nat.lt_succ_self n)
  obtain ⟨c1, c2, c3⟩ := digL_ok (n + 1) (val (U.drop k) - q * V) (by omega)
  have e1 : (U.take k ++ digL (n + 1) (val (U.drop k) - q * V) ++ U.drop (k + n + 1)).drop k = digL (n + 1) (val (U.drop k) - q * V) ++ U.drop (k + n + 1) := by
    rw [List.append_assoc, List.drop_append_of_le_length (by simp; omega), List.drop_of_length_le (by simp; omega), List.nil_append]
  refine ⟨by simp [c2]; omega, (((h.udig.take k).app c1).app (h.udig.drop _)), by simp [hQ], h.qdig.set hq, ?_, ?_⟩
  · rw [e1, val_app, c3, hz]; omega
  · have h5 := h.eq
    have e2 : val (U.take k ++ digL (n + 1) (val (U.drop k) - q * V) ++ U.drop (k + n + 1)) = val (U.take k) + pw k * (val (U.drop k) - q * V) := by
      rw [val_app, hz, Int.mul_zero, Int.add_zero, val_app, c3, List.length_take, Nat.min_eq_left (by omega)]
    have e3 := val_split U (i := k) (by omega)
    rw [e2, val_drop (l := Q.set k q) (i := k) (by simp; omega), nth_set_self (by omega), List.drop_set_of_lt (by omega)]
    rw [h5, e3, pw]
    grind
end
section
open Go
theorem pw_succ (n : Nat) : pw (n + 1) = 1048576 * pw n := rfl
def sgn (x : Int) : Int := if x < 0 then -1 else if x = 0 then 0 else 1
def mag (x : Int) : Int := if x < 0 then -x else x
abbrev aB (s : Int) (l : List Int) : PV := .agg [.int .i64 s, .sl (l.map encI)]
abbrev zB (x : Int) : PV := aB (sgn x) (digs (mag x))
def okZ (x : Int) : Prop := mag x < pw 60
theorem zeroSub : PSub (.agg [.int .i64 0, .slnil]) (.agg [.int .i64 0, .sl []]) := ⟨.refl _, .nil, trivial⟩
theorem zeroSubZ : PSub (.agg [.int .i64 0, .slnil]) (zB 0) := zeroSub
theorem mag_nn (x : Int) : 0 ≤ mag x := by unfold mag; split <;> omega
theorem sgn_mag (x : Int) : sgn x * mag x = x := by
  unfold sgn mag
  split
  · omega
  · split <;> omega
theorem sgn_cases (x : Int) : (sgn x = -1 ∧ x < 0 ∧ mag x = -x) ∨ (sgn x = 0 ∧ x = 0 ∧ mag x = 0) ∨ (sgn x = 1 ∧ 0 < x ∧ mag x = x) := by
  unfold sgn mag
  by_cases h : x < 0
  · rw [if_pos h, if_pos h]; omega
  · rw [if_neg h, if_neg h]
    by_cases h2 : x = 0
    · rw [if_pos h2]; omega
    · rw [if_neg h2]; omega
theorem val_mag (x : Int) : val (digs (mag x)) = mag x := val_digs (mag_nn x)
/-- a sign and a size -/
theorem num_of {s v z : Int} (hv : 0 ≤ v) (hs : s = 1 ∨ s = -1 ∨ v = 0) (hz : z = s * v) : mag z = v ∧ sgn z = if v = 0 then 0 else s := by
  rcases hs with rfl | rfl | rfl
  · have := sgn_cases z
    by_cases h : v = 0
    · rw [if_pos h]; omega
    · rw [if_neg h]; omega
  · have := sgn_cases z
    by_cases h : v = 0
    · rw [if_pos h]; omega
    · rw [if_neg h]; omega
  · rw [Int.mul_zero] at hz
    subst hz
    exact ⟨rfl, rfl⟩
def digB (d : Int) : Bool := decide (0 ≤ d) && decide (d < 1048576)
def rightB (s : Int) (l : List Int) : Bool := l.all digB && if l.length = 0 then decide (s = 0) else ((decide (s = 1) || decide (s = -1)) && decide (l.length ≤ 60) && !decide (nth l (l.length - 1) = 0))
theorem all_dig {l : List Int} : l.all digB = true ↔ Dig l := by
  rw [List.all_eq_true]
  constructor
  · intro h d hd
    have := h d hd
    simp only [digB, Bool.and_eq_true, decide_eq_true_iff] at this; exact this
  · intro h d hd
    have := h d hd
    simp only [digB, Bool.and_eq_true, decide_eq_true_iff]; exact this
theorem right_num {s : Int} {l : List Int} (h : rightB s l = true) : ∃ x, okZ x ∧ s = sgn x ∧ l = digs (mag x) := by
  rw [rightB, Bool.and_eq_true, all_dig] at h
  obtain ⟨hd, h⟩ := h
  by_cases hl : l.length = 0
  · rw [if_pos hl, decide_eq_true_iff] at h
    obtain rfl := List.length_eq_zero_iff.1 hl
    subst h
    exact ⟨0, pw_pos 60, rfl, rfl⟩
  · rw [if_neg hl] at h
    simp only [Bool.and_eq_true, Bool.or_eq_true, decide_eq_true_iff, Bool.not_eq_true', decide_eq_false_iff_not] at h
    obtain ⟨⟨h1, h2⟩, h3⟩ := h
    have hn : Norm l := ⟨hd, by rw [topD_nth l (fun e => hl (by rw [e]; rfl))]; exact h3⟩
    have hp := hn.pos (fun e => hl (by rw [e]; rfl))
    obtain ⟨e1, e2⟩ := num_of (s := s) (v := val l) (by omega) (by omega) rfl
    refine ⟨s * val l, ?_, ?_, ?_⟩
    · have := val_hi hd
      have := pw_mono h2
      unfold okZ; omega
    · rw [e2, if_neg (by omega)]
    · rw [e1]; exact hn.digs
theorem num_len {x : Int} (h : okZ x) : (digs (mag x)).length ≤ 60 := (digs_len (mag_nn x)).2 h
theorem num_right {x : Int} (h : okZ x) : rightB (sgn x) (digs (mag x)) = true := by
  have hn := digs_norm (mag x)
  have hl := num_len h
  rw [rightB, Bool.and_eq_true, all_dig]
  refine ⟨hn.dig, ?_⟩
  have hc := sgn_cases x
  by_cases h0 : (digs (mag x)).length = 0
  · have := (digs_nil (mag_nn x)).1 (List.length_eq_zero_iff.1 h0)
    rw [if_pos h0, decide_eq_true_iff]; omega
  · have h1 : mag x ≠ 0 := fun e => h0 (by rw [e]; rfl)
    have ht := hn.top
    rw [topD_nth _ (fun e => h0 (by rw [e]; rfl))] at ht
    rw [if_neg h0]
    simp only [Bool.and_eq_true, Bool.or_eq_true, decide_eq_true_iff, Bool.not_eq_true', decide_eq_false_iff_not]
    exact ⟨⟨by omega, hl⟩, ht⟩
theorem num_inj {x y : Int} (hs : sgn x = sgn y) (hd : digs (mag x) = digs (mag y)) : x = y := by
  have := digs_inj (mag_nn x) (mag_nn y) hd
  rw [← sgn_mag x, ← sgn_mag y, hs, this]
theorem okZ.lt {x : Int} (h : okZ x) : -pw 60 < x ∧ x < pw 60 := by
  have := sgn_cases x
  unfold okZ at h; omega
theorem okZ.of {x : Int} (h : -pw 60 < x ∧ x < pw 60) : okZ x := by
  have := sgn_cases x
  unfold okZ; omega
theorem digs_mono {u v : Int} (hu : 0 ≤ u) (h : u ≤ v) : (digs u).length ≤ (digs v).length := by
  have h1 := val_hi (digs_norm v).dig
  rw [val_digs (by omega)] at h1
  exact (digs_len hu).2 (by omega)
/-- the quotient, rounded down, and what is left -/
def quoZ (x y : Int) : Int := if 0 < y then x / y else -x / -y
def remZ (x y : Int) : Int := x - y * quoZ x y
theorem quo_uniq {x y q r : Int} (hy : y ≠ 0) (h : x = y * q + r) (h1 : 0 < y → 0 ≤ r ∧ r < y) (h2 : y < 0 → y < r ∧ r ≤ 0) : q = quoZ x y ∧ r = remZ x y := by
  have e : q = quoZ x y := by
    unfold quoZ
    by_cases hp : 0 < y
    · rw [if_pos hp]
      obtain ⟨a, b⟩ := h1 hp
      rw [h, Int.mul_add_ediv_left _ _ hy, Int.ediv_eq_zero_of_lt a b]; omega
    · rw [if_neg hp]
      obtain ⟨a, b⟩ := h2 (by omega)
      rw [show -x = -y * q + -r by rw [h, Int.neg_mul]; omega, Int.mul_add_ediv_left _ _ (by omega), Int.ediv_eq_zero_of_lt (by omega) (by omega)]; omega
  exact ⟨e, by unfold remZ; rw [← e]; omega⟩
theorem rem_rng {x y : Int} (hy : y ≠ 0) : (0 < y → 0 ≤ remZ x y ∧ remZ x y < y) ∧ (y < 0 → y < remZ x y ∧ remZ x y ≤ 0) := by
  constructor
  · intro hp
    have e1 := Int.emod_add_mul_ediv x y
    have e2 := Int.emod_nonneg x hy
    have e3 := Int.emod_lt_of_pos x hp
    rw [remZ, quoZ, if_pos hp]; omega
  · intro hn
    have e1 := Int.emod_add_mul_ediv (-x) (-y)
    have e2 := Int.emod_nonneg (-x) (show -y ≠ 0 by omega)
    have e3 := Int.emod_lt_of_pos (-x) (show 0 < -y by omega)
    rw [Int.neg_mul] at e1
    rw [remZ, quoZ, if_neg (by omega)]; omega
theorem quo_rem (x y : Int) : x = y * quoZ x y + remZ x y := by unfold remZ; omega
end
section
open Go Go.Lib
end
end Lf
end
section
set_option linter.unusedVariables false
set_option linter.unusedSimpArgs false
set_option maxHeartbeats 8000000
set_option linter.unusedSectionVars false
namespace Go.Proofs.YtjedkgogjehigaaGreat
open Lf Go
attribute [local irreducible] PureOp EffOp Ev RG W Then InBlock Lf.Fin nth App InitE Pick SubE EvL EvD EvP EvR ResL Lf.Lex SubR SubBR RA RAll EvC FinO FinM ResM ResD FinS val pw digs trimL
theorem norm_top {b : List Int} (nb : Norm b) (h : b ≠ []) : 0 < nth b (b.length - 1) ∧ nth b (b.length - 1) < 1048576 := by
  have h1 := nb.top
  rw [topD_nth b h] at h1
  have := nb.dig.nth (show b.length - 1 < b.length by have := List.length_pos_iff.2 h; omega)
  omega
theorem div_lt (a b : List Int) (na : Norm a) (nb : Norm b) (hl : a.length ≤ 100000) (hl' : b.length ≤ 100000) (hv : val a < val b) : ACalls Tryz.prog 94 [slI a, slI b] (.tup [slI (digs (val a / val b)), slI (digs (val a % val b))]) := by
  have h1 := compare_ok a b na nb (by omega) (by omega)
  rw [show cmpI (val a) (val b) = -1 from if_pos hv] at h1
  have h2 := clone_ok a (by omega)
  have h3 := val_lo na.dig
  rw [Int.ediv_eq_zero_of_lt h3 hv, Int.emod_eq_of_lt h3 hv, digs_zero, ← na.digs]
  refine ACalls.of_W (qs := [slI [], slI a]) [4, 5] 170 Tryz.func94 (by kernel_rfl) rfl rfl rfl fun G => ?_
  refine W.initA (hw := ?_)
  repeat' (first | ((first | apply U_ | (apply Ug_; exact rfl; exact rfl) | (apply Ugq_; exact rfl; exact rfl) | apply Lex.u | (apply Lex.g; exact rfl; exact rfl) | (apply Lex.gq; exact rfl; exact rfl)); (first | exact QX.B TYok | exact QX.Len TYok | exact QX.Idx TYok | exact QX.Ext TYok | exact QX.Cut TYok | exact QCl (h1)); exact rfl) | (apply S_callo (h2); exact rfl; exact rfl; exact rfl; exact EvD.auto) | refine SC ?_ | (refine W.condA (ht := fun hb => ?_) (hf := fun hb => ?_) <;> (try simp at hb) <;> (try (exfalso; omega))))
  exact Fin.ret ResL.auto
theorem cmp_ge {x y : Int} (h : y ≤ x) : 0 ≤ cmpI x y := by
  unfold cmpI; rw [if_neg (by omega)]; split <;> omega
theorem div_one (a b : List Int) (na : Norm a) (nb : Norm b) (hl : a.length ≤ 100000) (hl' : b.length = 1) (hv : val b ≤ val a) : ACalls Tryz.prog 94 [slI a, slI b] (.tup [slI (digs (val a / val b)), slI (digs (val a % val b))]) := by
  have h1 := compare_ok a b na nb (by omega) (by omega)
  have hc := cmp_ge hv
  generalize cmpI (val a) (val b) = c at h1 hc
  obtain ⟨d, rfl⟩ : ∃ d, b = [d] := by
    cases b with
    | nil => simp at hl'
    | cons d r => cases r with
      | nil => exact ⟨d, rfl⟩
      | cons x y => simp at hl'
  have hd := nb.dig.hd
  have ht := nb.top
  simp only [topD] at ht
  have h2 := short_ok a d na.dig (by omega) (by omega)
  rw [val_one]
  have hr := Int.emod_nonneg (val a) (show d ≠ 0 by omega)
  have hr2 := Int.emod_lt_of_pos (val a) (show 0 < d by omega)
  have h3 : ACalls Tryz.prog 126 [slI [val a % d]] (.pv (slI (digs (val a % d)))) := by
    rw [← trim_eq (l := [val a % d]) (Dig.cons (by omega) Dig.nil) (val_one _)]
    exact trim_ok _ (by simp)
  have e0 : nth [d] 0 = d := by simp [nth]
  generalize digs (val a / d) = q at h2 ⊢
  generalize val a % d = r at h2 h3 ⊢
  replace h2 : ACalls Tryz.prog 125 [slI a, cI (nth [d] 0)] (.tup [slI q, cI r]) := by rw [e0]; exact h2
  refine ACalls.of_W (qs := [slI q, slI (digs r)]) [4, 5] 170 Tryz.func94 (by kernel_rfl) rfl rfl rfl fun G => ?_
  refine W.initA (hw := ?_)
  repeat' (first | (refine RG.weaken (Le.freeze1 (m := 38) rfl) ?_) | ((first | apply U_ | (apply Ug_; exact rfl; exact rfl) | (apply Ugq_; exact rfl; exact rfl) | apply Lex.u | (apply Lex.g; exact rfl; exact rfl) | (apply Lex.gq; exact rfl; exact rfl)); (first | exact QX.B TYok | exact QX.Len TYok | exact QX.Idx TYok | exact QX.Ext TYok | exact QX.Cut TYok | exact QCl (h1) | exact QCd (h2) | exact QCd (h3)); exact rfl) | refine SX.Lit TYok (h := ?_) | refine SC ?_ | (refine W.condA (ht := fun hb => ?_) (hf := fun hb => ?_) <;> (try simp at hb) <;> (try (exfalso; omega))))
  exact Fin.ret ResL.auto
theorem shift_le {x s : Int} (hx : 0 < x ∧ x < 1048576) (hs : 1 ≤ s ∧ s < 1048576) : x ≤ x * s ∧ s ≤ x * s ∧ x * s ≤ 1099509530625 := by
  have h1 := mul_le ⟨by omega, hx.2⟩ ⟨by omega, hs.2⟩
  have h2 : x * 1 ≤ x * s := Int.mul_le_mul_of_nonneg_left hs.1 (by omega)
  have h3 : 1 * s ≤ x * s := Int.mul_le_mul_of_nonneg_right (by omega) (by omega)
  omega
theorem shift_len {a : List Int} (na : Norm a) (ha : a ≠ []) {s : Int} (hs : 1 ≤ s ∧ s < 1048576) : (digs (val a * s)).length ≤ a.length + 1 ∧ a.length ≤ (digs (val a * s)).length ∧ val a ≤ val a * s := by
  have h0 := val_lo na.dig
  have h1 : val a * 1 ≤ val a * s := Int.mul_le_mul_of_nonneg_left hs.1 h0
  have h2 : val a * s ≤ val a * 1048576 := Int.mul_le_mul_of_nonneg_left (by omega) h0
  have h3 := val_hi na.dig
  have h4 := na.lo ha
  refine ⟨(digs_len (by omega)).2 (by rw [pw]; omega), ?_, by omega⟩
  have h5 := val_hi (digs_norm (val a * s)).dig
  rw [val_digs (by omega)] at h5
  have := pw_inj (show pw (a.length - 1) < pw (digs (val a * s)).length by omega)
  omega
theorem div_long (a b : List Int) (na : Norm a) (nb : Norm b) (hl : a.length ≤ 100000) (hb2 : 2 ≤ b.length) (hv : val b ≤ val a) : ACalls Tryz.prog 94 [slI a, slI b] (.tup [slI (digs (val a / val b)), slI (digs (val a % val b))]) := by
  have hbl : b.length ≤ a.length := by
    have h1 := nb.lo (by rintro rfl; simp at hb2)
    have h2 := val_hi na.dig
    have := pw_inj (show pw (b.length - 1) < pw a.length by omega)
    omega
  have h1 := compare_ok a b na nb (by omega) (by omega)
  have hc := cmp_ge hv
  generalize cmpI (val a) (val b) = c at h1 hc
  have hbt := norm_top nb (by rintro rfl; simp at hb2)
  refine ACalls.of_W (qs := [slI (digs (val a / val b)), slI (digs (val a % val b))]) [4, 5] 170 Tryz.func94 (by kernel_rfl) rfl rfl rfl fun G => ?_
  refine W.initA (hw := ?_)
  repeat' (first | ((first | apply U_ | (apply Ug_; exact rfl; exact rfl) | (apply Ugq_; exact rfl; exact rfl) | apply Lex.u | (apply Lex.g; exact rfl; exact rfl) | (apply Lex.gq; exact rfl; exact rfl)); (first | exact QX.B TYok | exact QX.Len TYok | exact QX.Idx TYok | exact QX.Ext TYok | exact QX.Cut TYok | exact QCl (h1)); exact rfl) | refine SC ?_ | (refine W.condA (ht := fun hb => ?_) (hf := fun hb => ?_) <;> (try simp at hb) <;> (try (exfalso; omega))))
  apply W.loopP (σ := Int) 170 [0, 1] (fun s => 1 ≤ s ∧ s < 1048576) (fun s => [(8, vI s)]) (fun _ => []) (fun s => (1048576 - s).toNat) (1)
  case hp => repeat (first | exact Pick.nil | apply Pick.cons rfl)
  case h0 =>
    refine ⟨by omega, ?_⟩
    exact Le.auto
  case round =>
    intro s hs
    have hs2 := shift_le hbt hs
    have hs3 : 0 ≤ nth b ((b.length : Int) - 1).toNat * s ∧ s ≤ nth b ((b.length : Int) - 1).toNat * s ∧ nth b ((b.length : Int) - 1).toNat * s ≤ 1099509530625 := by
      rw [show ((b.length : Int) - 1).toNat = b.length - 1 by omega]; omega
    have m1 := mul_own a [s] na.dig (Dig.cons (by omega) Dig.nil) (by omega) (by simp) (by simp)
    have m2 := mul_ok b [s] nb.dig (Dig.cons (by omega) Dig.nil) (by omega) (by simp)
    rw [val_one] at m1 m2
    have l1 := shift_len na (fun h => by rw [h] at hbl; simp only [List.length_nil] at hbl; omega) hs
    have l2 := shift_len nb (by rintro rfl; simp at hb2) hs
    have hrow : (digs (val a * s)).map Lf.encI ++ [[Cell.int .i64 0]] = (digs (val a * s) ++ [0]).map Lf.encI := by simp [Lf.encI]
    have hAV : val b * s ≤ val a * s := Int.mul_le_mul_of_nonneg_right hv (by omega)
    have dD := digs_norm (val a * s)
    have eD : val (digs (val a * s)) = val a * s := val_digs (by have := val_lo na.dig; omega)
    have dV := digs_norm (val b * s)
    have eV : val (digs (val b * s)) = val b * s := val_digs (by have := val_lo nb.dig; omega)
    generalize digs (val a * s) = D at *
    generalize digs (val b * s) = V at *
    have lVD : V.length ≤ D.length := by
      have := dV.lo (fun h => by rw [h, List.length_nil] at l2; omega)
      have := val_hi dD.dig
      have := pw_inj (show pw (V.length - 1) < pw D.length by omega)
      omega
    have hu : (D ++ [(0 : Int)]).length = D.length + 1 := by simp
    have hV2 : 2 ≤ V.length := by omega
    have hVpos := dV.pos (fun h => by rw [h, List.length_nil] at hV2; omega)
    have hVhi := val_hi dV.dig
    have hM : ∃ M : Nat, D.length + 1 = M + V.length := ⟨D.length + 1 - V.length, by omega⟩
    obtain ⟨M, hM⟩ := hM
    have hrl : (List.replicate M (0 : Int)).length = M := by simp
    have hrep : ∀ k : Nat, k = M → List.replicate k [Cell.int .i64 0] = (List.replicate M (0 : Int)).map Lf.encI := fun k hk => by subst hk; simp [Lf.encI]
    apply W.norm (by repeat (first | exact App.nil | apply App.cons))
    repeat' (first | (refine RG.weaken (Le.freeze1 (m := 53) rfl) ?_) | (refine RG.weaken (Le.freeze1 (m := 59) rfl) ?_) | (refine W.weaken (Le.rowsEq (n := 56) _ rfl rfl hrow) ?_; apply W.region (id := 10)) | (refine W.weaken (Le.rowsEq (n := 75) _ rfl rfl (hrep _ (by omega))) ?_; apply W.region (id := 14)) | ((first | apply U_ | (apply Ug_; exact rfl; exact rfl) | (apply Ugq_; exact rfl; exact rfl) | apply Lex.u | (apply Lex.g; exact rfl; exact rfl) | (apply Lex.gq; exact rfl; exact rfl)); (first | exact QX.B TYok | exact QX.Len TYok | exact QX.Idx TYok | exact QX.Ext TYok | exact QX.Cut TYok | exact QCd (m2)); exact rfl) | refine SX.Lit TYok (h := ?_) | refine SX.Make TYok (h := ?_) | refine SX.App TYok (h := ?_) | (apply S_callo (m1); exact rfl; exact rfl; exact rfl; exact EvD.auto) | refine SC ?_ | (refine W.condA (ht := fun hb => ?_) (hf := fun hb => ?_) <;> (try simp at hb) <;> (try (exfalso; omega))))
    · refine ⟨s * 2, by omega, ?_, by omega⟩
      exact Le.auto
    apply W.loopP (σ := Nat × List Int × List Int) 170 [] (fun (i, U, Q) => i ≤ M ∧ DivI (val a * s) (val V) V.length M U Q i) (fun (i, U, Q) => [(13, vI ((i : Int) - 1)), (8, vI s), (9, (True, .slc 56)), (10, (True, .pv (slI V))), (11, vI V.length), (12, (True, .slc 75))]) (fun (i, U, Q) => [(56, ⟨3, 1, U.map Lf.encI⟩), (75, ⟨3, 1, Q.map Lf.encI⟩)]) (fun (i, U, Q) => i) ((M, D ++ [0], List.replicate M 0))
    case hp => repeat (first | exact Pick.nil | apply Pick.cons rfl)
    case h0 =>
      refine ⟨⟨Nat.le_refl _, ⟨by omega, dD.dig.app (Dig.cons (by omega) Dig.nil), by simp, Dig.rep _, ?_, ?_⟩⟩, ?_⟩
      · rw [List.drop_append_of_le_length (by omega), val_app]
        have h3 := val_hi (dD.dig.drop M)
        rw [List.length_drop, show D.length - M = V.length - 1 by omega] at h3
        have h4 := dV.lo (fun h => by rw [h, List.length_nil] at hV2; omega)
        simp only [val]
        omega
      · rw [val_app, eD, List.drop_of_length_le (by simp)]
        simp [val]
      · exact Le.auto
    case round =>
      rintro ⟨i, U, Q⟩ ⟨g1, g2⟩
      dsimp only at g1 g2 ⊢
      have gU := g2.ulen
      have gQ := g2.qlen
      apply W.norm (by repeat (first | exact App.nil | apply App.cons))
      cases i with
      | succ k =>
        have e1 : ((k + 1 : Nat) : Int) - 1 = k := by omega
        have hk : k < M := by omega
        rw [e1]
        have hw := g2.win hk dV rfl hV2
        have hwin := g2.window hk hVhi
        have hsm := g2.small
        have hq0 : 0 ≤ val (U.drop k) / val V := Int.ediv_nonneg (val_lo (g2.udig.drop k)) (by omega)
        have hqB : val (U.drop k) / val V < 1048576 := by
          refine Int.ediv_lt_of_lt_mul hVpos ?_
          rw [val_drop (by omega)]
          have := g2.udig.nth (show k < U.length by omega)
          omega
        have hqm := Int.emod_add_mul_ediv (val (U.drop k)) (val V)
        have hqr := Int.emod_nonneg (val (U.drop k)) (show val V ≠ 0 by omega)
        have hqr2 := Int.emod_lt_of_pos (val (U.drop k)) hVpos
        rw [Int.mul_comm] at hqm
        generalize val (U.drop k) / val V = q at hq0 hqB hqm
        have hW1 : q * val V ≤ val (U.drop k) := by omega
        have hW2 : val (U.drop k) < q * val V + val V := by omega
        have ql := hw.lower hq0 hW1
        have d0 := g2.udig.nth (show k + V.length < U.length by omega)
        have d1 := g2.udig.nth (show k + V.length - 1 < U.length by omega)
        have d2 := hw.u2
        have d3 := hw.v1
        have d4 := hw.v2
        have i0 : ((k : Int) + (V.length : Int)).toNat = k + V.length := by omega
        have i1 : ((k : Int) + (V.length : Int) - 1).toNat = k + V.length - 1 := by omega
        have i2 : ((k : Int) + (V.length : Int) - 2).toNat = k + V.length - 2 := by omega
        have i3 : ((V.length : Int) - 1).toNat = V.length - 1 := by omega
        have i4 : ((V.length : Int) - 2).toNat = V.length - 2 := by omega
        have t0 : nth U ((k : Int) + (V.length : Int)).toNat = nth U (k + V.length) := by rw [i0]
        have t1 : nth U ((k : Int) + (V.length : Int) - 1).toNat = nth U (k + V.length - 1) := by rw [i1]
        have t2 : nth U ((k : Int) + (V.length : Int) - 2).toNat = nth U (k + V.length - 2) := by rw [i2]
        have t3 : nth V ((V.length : Int) - 1).toNat = nth V (V.length - 1) := by rw [i3]
        have t4 : nth V ((V.length : Int) - 2).toNat = nth V (V.length - 2) := by rw [i4]
        have hdm := Int.emod_add_mul_ediv (nth U (k + V.length) * 1048576 + nth U (k + V.length - 1)) (nth V (V.length - 1))
        have hd0 : 0 ≤ (nth U (k + V.length) * 1048576 + nth U (k + V.length - 1)) / nth V (V.length - 1) := Int.ediv_nonneg (by omega) (by omega)
        have hd1 : (nth U (k + V.length) * 1048576 + nth U (k + V.length - 1)) / nth V (V.length - 1) ≤ nth U (k + V.length) * 1048576 + nth U (k + V.length - 1) := Int.ediv_le_self _ (by omega)
        have hd2 : q ≤ (nth U (k + V.length) * 1048576 + nth U (k + V.length - 1)) / nth V (V.length - 1) := Int.le_ediv_of_mul_le d3.1 ql
        have hd3 := Int.emod_nonneg (nth U (k + V.length) * 1048576 + nth U (k + V.length - 1)) (show nth V (V.length - 1) ≠ 0 by omega)
        have hd4 := Int.emod_lt_of_pos (nth U (k + V.length) * 1048576 + nth U (k + V.length - 1)) d3.1
        repeat' (first | ((first | apply U_ | (apply Ug_; exact rfl; exact rfl) | (apply Ugq_; exact rfl; exact rfl) | apply Lex.u | (apply Lex.g; exact rfl; exact rfl) | (apply Lex.gq; exact rfl; exact rfl)); (first | (apply Q_or20; exact Ev.auto; exact Ev.auto; (intro hg; first | omega | (simp; omega) | (simp at hg; simp; omega))) | (apply Q_shl20; exact Ev.auto; (intro hg; first | omega | (simp; omega) | (simp at hg; simp; omega))) | (apply Q_shr20; exact Ev.auto) | (apply Q_and1; exact Ev.auto) | (apply Q_mask20; exact Ev.auto) | exact QX.B TYok | exact QX.Len TYok | exact QX.Idx TYok | exact QX.Ext TYok | exact QX.Cut TYok); exact rfl) | refine SC ?_ | (apply W.draw2 (id := 17) [0, 0, 0, 6, 15, 31, 63, 0, 0, 0, 768, 1792, 3968, 8064, 16383, 32767] [[9], [13], [11], [84, 85], [83, 86], [87], [88], [9], [13], [11], [91, 92], [93], [90, 94], [95], [89, 96], [97]] 16 [(83, 512), (84, 8192), (85, 2048), (86, 58028439341502200385896448), (87, 87042659012253300578844672), (88, 154742504910672534362390528), (89, 309485009821345068724781056), (90, 512), (91, 8192), (92, 2048), (93, 7427640235712281649394745344), (94, 9903520314283042199192993792), (95, 21044980667851464673285111808), (96, 39614081257132168796771975168), (97, 79847132533907027730993512448), (14, 158456325028528675187087900672)] mixed (by kernel_rfl) rfl rfl) | (apply W.draw2 (id := 18) [0, 0, 0, 4, 14, 30, 63, 0, 0, 0, 512, 1792, 3840, 8064, 127, 32767] [[14], [10], [11], [100], [99, 101], [102], [98, 103], [14], [10], [11], [107], [106, 108], [109], [105, 110], [104], [111]] 16 [(98, 16384), (99, 1024), (100, 2048), (101, 1267650600228229401496703205376), (102, 3169126500570573503741758013440), (103, 5070602400912917605986812821504), (104, 10458117451882892562347801444352), (105, 16384), (106, 1024), (107, 2048), (108, 162259276829213363391578010288128), (109, 405648192073033408478945025720320), (110, 649037107316853453566312041152512), (111, 1338639033841010247980518584877056), (15, 20282409603651670423947251286016), (16, 2596148429267413814265248164610048)] mixed (by kernel_rfl) rfl rfl) | (refine W.condA (ht := fun hb => ?_) (hf := fun hb => ?_) <;> (try simp at hb) <;> (try (exfalso; omega))))
        simp only [t0, t1, t3]
        generalize htop : nth U (k + V.length) * 1048576 + nth U (k + V.length - 1) = top at *
        generalize nth V (V.length - 1) = v1 at *
        apply W.loopP (σ := Int × Int) 170 [8, 10, 11, 13] (fun (g, r) => (g * v1 + r = top ∧ q ≤ g ∧ 0 ≤ r ∧ g ≤ 1099511627775)) (fun (g, r) => [(15, vI g), (16, vI r), (9, (True, .slc 56)), (12, (True, .slc 75))]) (fun (g, r) => [(56, ⟨3, 1, U.map Lf.encI⟩), (75, ⟨3, 1, Q.map Lf.encI⟩)]) (fun (g, r) => g.toNat) ((top / v1, top % v1))
        case hp => repeat (first | exact Pick.nil | apply Pick.cons rfl)
        case h0 =>
          refine ⟨⟨by rw [Int.mul_comm]; omega, hd2, hd3, by omega⟩, ?_⟩
          exact Le.auto
        case round =>
          rintro ⟨g, r⟩ ⟨f1, f2, f3, f4⟩
          dsimp only at f1 f2 f3 f4 ⊢
          have f5 : 0 ≤ g * v1 := Int.mul_nonneg (by omega) (by omega)
          have f6 : 0 ≤ g * nth V ((V.length : Int) - 2).toNat := Int.mul_nonneg (by omega) (by omega)
          have f7 : g * nth V ((V.length : Int) - 2).toNat ≤ g * 1048575 := Int.mul_le_mul_of_nonneg_left (by omega) (by omega)
          have hne : U.map Lf.encI ≠ [] := fun h => by
            have := congrArg List.length h
            simp at this; rw [this] at gU; simp at gU; omega
          apply W.norm (by repeat (first | exact App.nil | apply App.cons))
          have hs := settle_ok (U.take k) ((U.drop k).take (V.length + 1)) (U.drop (k + V.length + 1)) V g q ((g2.udig.drop k).take _) dV.dig
          have hU0 : U.take k ++ (U.drop k).take (V.length + 1) ++ U.drop (k + V.length + 1) = U := by
            rw [List.append_assoc, show k + V.length + 1 = k + (V.length + 1) by omega, ← List.drop_drop, List.take_append_drop, List.take_append_drop]
          have hl1 : ((U.drop k).take (V.length + 1)).length = V.length + 1 := by simp; omega
          have hl2 : (U.take k).length = k := by simp; omega
          rw [hU0, hl1, hl2, hwin] at hs
          have hs' := fun hg hq => hs rfl (by omega) hg hq (by omega)
          clear hs
          have hpart : ∀ bb cc : Nat, subV bb 1 ((k : Int)).toNat (((k : Int) + (V.length : Int) + 1).toNat - ((k : Int)).toNat) (cc - ((k : Int)).toNat) = subV bb 1 k (V.length + 1) (cc - k) := fun bb cc => by
            rw [show ((k : Int) + (V.length : Int) + 1).toNat - ((k : Int)).toNat = V.length + 1 by omega, show ((k : Int)).toNat = k by omega]
          have gS := g2.step hk hVhi hVpos ⟨hq0, hqB⟩ hW1 hW2
          have hlen : ((U.take k ++ digL (V.length + 1) (val (U.drop k) - q * val V) ++ U.drop (k + V.length + 1)).map Lf.encI).length = (U.map Lf.encI).length := by
            rw [List.length_map, List.length_map, gS.ulen, gU]
          generalize U.take k ++ digL (V.length + 1) (val (U.drop k) - q * val V) ++ U.drop (k + V.length + 1) = U' at hs' gS hlen
          have f9 : g * nth V ((V.length : Int) - 2).toNat = g * nth V (V.length - 2) := by rw [t4]
          have f8 : 0 ≤ g * nth V (V.length - 2) ∧ g * nth V (V.length - 2) ≤ g * 1048575 := by rw [← t4]; exact ⟨f6, f7⟩
          by_cases hcont : 1048576 ≤ g ∨ r < 1048576 ∧ r * 1048576 + nth U (k + V.length - 2) < g * nth V (V.length - 2)
          · have hdec : q ≤ g - 1 := by
              rcases hcont with h | h
              · omega
              · exact hw.dec hq0 hW1 f1 h.2
            repeat' (first | ((first | apply U_ | (apply Ug_; exact rfl; exact rfl) | (apply Ugq_; exact rfl; exact rfl) | apply Lex.u | (apply Lex.g; exact rfl; exact rfl) | (apply Lex.gq; exact rfl; exact rfl)); (first | (apply Q_or20; exact Ev.auto; exact Ev.auto; (intro hg; first | omega | (simp; omega) | (simp at hg; simp; omega))) | (apply Q_shl20; exact Ev.auto; (intro hg; first | omega | (simp; omega) | (simp at hg; simp; omega))) | (apply Q_shr20; exact Ev.auto) | (apply Q_and1; exact Ev.auto) | (apply Q_mask20; exact Ev.auto) | exact QX.B TYok | exact QX.Len TYok | exact QX.Idx TYok | exact QX.Ext TYok | exact QX.Cut TYok); exact rfl) | refine SC ?_ | (apply W.draw2 (id := 19) [0, 1, 3, 7, 15, 31, 63, 63, 63, 319, 959, 1983, 4095, 63, 8255, 63, 63, 63, 196671, 458815, 1015871, 2064447, 4186175, 8388607, 16777215, 33554431] [[15], [112], [113], [16, 114], [115, 114], [116, 114], [15, 117], [10, 117], [11, 117], [120, 117], [119, 121, 117], [122, 117], [118, 123, 117], [16, 117], [125, 117], [9, 117], [13, 117], [11, 117], [128, 129, 117], [130, 117], [127, 131, 117], [132, 117], [126, 133, 117], [124, 134, 117], [117, 135, 114], [114, 136]] 26 [(112, 32768), (113, 5192296858534827628530496329220096), (114, 10384593717069655257060992658440192), (115, 20769187434139310514121985316945920), (116, 62307562302417931542365955950641152), (117, 103845937170696552570609926584401920), (118, 166153499473114484112975882535075840), (119, 166153499473114484112975882535044096), (120, 166153499473114484112975882535045120), (121, 1495381495258030357016782942815387648), (122, 3489223488935404166372493533235904512), (123, 5483065482612777975728204123656421376), (124, 11132284464698670435569384129847885824), (125, 166153499473114484112975882535108608), (126, 42701449364590422417034801811506069504), (127, 166153499473114484112975882535043584), (128, 166153499473114484112975882535051264), (129, 166153499473114484112975882535045120), (130, 1021013254262288504874236798177839677440), (131, 1361295621183226968337611405609607888896), (132, 2892566272327450053922797139052564840448), (133, 5444684024234488529898106694790826426368), (134, 10974272486699738561177944065557059862528), (135, 21799505284372093430106548764480186089472), (136, 43556329888567030577106576849134182989824), (137, 87112306700947680785934413624517979013120)] mixed (by kernel_rfl) rfl rfl) | (refine W.condA (ht := fun hb => ?_) (hf := fun hb => ?_) <;> (try simp at hb) <;> (try (exfalso; omega))))
            · refine ⟨(g - 1, r + v1), ⟨?_, by omega, by omega, by omega⟩, ?_, by (try simp only); omega⟩
              · rw [Int.sub_mul]; omega
              · simp only [t3]
                exact Le.auto
            all_goals (exfalso; omega)
          · have hup : g ≤ q + 1 := by
              refine hw.upper hq0 hW2 f1 (by omega) ?_
              by_cases h : r < 1048576
              · omega
              · omega
            have hs2 := hs' ⟨by omega, by omega⟩ ⟨f2, hup⟩
            repeat' (first | (apply W.region (id := 22); refine RG.place (t := 9) (n := 56) rfl rfl (fun bb cc => ?_) (fun hnil => (hne hnil).elim)) | ((first | apply U_ | (apply Ug_; exact rfl; exact rfl) | (apply Ugq_; exact rfl; exact rfl) | apply Lex.u | (apply Lex.g; exact rfl; exact rfl) | (apply Lex.gq; exact rfl; exact rfl)); (first | (apply Q_or20; exact Ev.auto; exact Ev.auto; (intro hg; first | omega | (simp; omega) | (simp at hg; simp; omega))) | (apply Q_shl20; exact Ev.auto; (intro hg; first | omega | (simp; omega) | (simp at hg; simp; omega))) | (apply Q_shr20; exact Ev.auto) | (apply Q_and1; exact Ev.auto) | (apply Q_mask20; exact Ev.auto) | exact QX.B TYok | exact QX.Len TYok | exact QX.Idx TYok | exact QX.Ext TYok | exact QX.Cut TYok | (apply Q_partV TYok; exact Ev.auto; exact Ev.auto; exact Ev.auto; exact rfl; exact rfl; exact rfl; exact rfl; (intro hg; simp; omega))); exact rfl) | refine SX.Store TYok (h := ?_) | (apply S_callsub hs2; exact Ev.auto; exact hpart _ _; exact rfl; exact rfl; exact EvD.auto; exact hlen) | refine SC ?_ | (apply W.draw2 (id := 19) [0, 1, 3, 7, 15, 31, 63, 63, 63, 319, 959, 1983, 4095, 63, 8255, 63, 63, 63, 196671, 458815, 1015871, 2064447, 4186175, 8388607, 16777215, 33554431] [[15], [112], [113], [16, 114], [115, 114], [116, 114], [15, 117], [10, 117], [11, 117], [120, 117], [119, 121, 117], [122, 117], [118, 123, 117], [16, 117], [125, 117], [9, 117], [13, 117], [11, 117], [128, 129, 117], [130, 117], [127, 131, 117], [132, 117], [126, 133, 117], [124, 134, 117], [117, 135, 114], [114, 136]] 26 [(112, 32768), (113, 5192296858534827628530496329220096), (114, 10384593717069655257060992658440192), (115, 20769187434139310514121985316945920), (116, 62307562302417931542365955950641152), (117, 103845937170696552570609926584401920), (118, 166153499473114484112975882535075840), (119, 166153499473114484112975882535044096), (120, 166153499473114484112975882535045120), (121, 1495381495258030357016782942815387648), (122, 3489223488935404166372493533235904512), (123, 5483065482612777975728204123656421376), (124, 11132284464698670435569384129847885824), (125, 166153499473114484112975882535108608), (126, 42701449364590422417034801811506069504), (127, 166153499473114484112975882535043584), (128, 166153499473114484112975882535051264), (129, 166153499473114484112975882535045120), (130, 1021013254262288504874236798177839677440), (131, 1361295621183226968337611405609607888896), (132, 2892566272327450053922797139052564840448), (133, 5444684024234488529898106694790826426368), (134, 10974272486699738561177944065557059862528), (135, 21799505284372093430106548764480186089472), (136, 43556329888567030577106576849134182989824), (137, 87112306700947680785934413624517979013120)] mixed (by kernel_rfl) rfl rfl) | (refine W.condA (ht := fun hb => ?_) (hf := fun hb => ?_) <;> (try simp at hb) <;> (try (exfalso; omega))))
            refine ⟨(k, U', Q.set k q), ⟨by (try simp only); omega, gS⟩, Le.trans (Le.unplace (t := 9) (n := 56) (b := bb) (c := cc) rfl) ?_, by (try simp only); omega⟩
            exact Le.auto
      | zero =>
        have hsm := g2.small
        have heq := g2.eq
        rw [List.drop_zero] at hsm heq
        simp only [pw, Int.one_mul] at heq
        have hU0 := val_lo g2.udig
        have t1 : ACalls Tryz.prog 126 [slI U] (.pv (slI (digs (val U)))) := by
          rw [← trim_digs g2.udig]; exact trim_ok U (by omega)
        have t2 : ACalls Tryz.prog 126 [slI Q] (.pv (slI (digs (val Q)))) := by
          rw [← trim_digs g2.qdig]; exact trim_ok Q (by omega)
        have lU : (digs (val U)).length ≤ 1000000 := by
          have := trimL_len U
          rw [trim_digs g2.udig] at this; omega
        have t3 := short_ok (digs (val U)) s (digs_norm _).dig (by omega) lU
        rw [val_digs hU0] at t3
        have hb0 : 0 < val b := nb.pos (fun h => by rw [h, List.length_nil] at hb2; omega)
        have hmr := Int.emod_add_mul_ediv (val a) (val b)
        have hr0 := Int.emod_nonneg (val a) (show val b ≠ 0 by omega)
        have hr1 := Int.emod_lt_of_pos (val a) hb0
        have e1 : val Q = val a / val b := by
          have h3 : val a * s / (val b * s) = val a / val b := Int.mul_ediv_mul_of_pos_left _ _ (by omega)
          rw [← h3, heq, ← eV, Int.add_mul_ediv_left _ _ (by omega), Int.ediv_eq_zero_of_lt hU0 hsm]; omega
        have e2 : val U = (val a % val b) * s := by
          rw [e1, eV] at heq
          have h3 : val a * s = (val a % val b + val b * (val a / val b)) * s := by rw [hmr]
          generalize val a % val b = x at *
          generalize val a / val b = y at *
          have h4 : (x + val b * y) * s = x * s + val b * s * y := by grind
          omega
        have e3 : val U / s = val a % val b := by rw [e2, Int.mul_ediv_cancel _ (by omega)]
        rw [e3] at t3
        rw [e1] at t2
        generalize val U % s = rr at t3
        generalize val a / val b = y at t2 ⊢
        generalize val a % val b = x at t3 ⊢
        generalize digs (val U) = W' at t1 t3
        repeat' (first | (refine W.weaken Le.freeze ?_; apply W.region (id := 23)) | ((first | apply U_ | (apply Ug_; exact rfl; exact rfl) | (apply Ugq_; exact rfl; exact rfl) | apply Lex.u | (apply Lex.g; exact rfl; exact rfl) | (apply Lex.gq; exact rfl; exact rfl)); (first | (apply Q_or20; exact Ev.auto; exact Ev.auto; (intro hg; first | omega | (simp; omega) | (simp at hg; simp; omega))) | (apply Q_shl20; exact Ev.auto; (intro hg; first | omega | (simp; omega) | (simp at hg; simp; omega))) | (apply Q_shr20; exact Ev.auto) | (apply Q_and1; exact Ev.auto) | (apply Q_mask20; exact Ev.auto) | exact QX.B TYok | exact QX.Len TYok | exact QX.Idx TYok | exact QX.Ext TYok | exact QX.Cut TYok | exact QCd (t1) | exact QCd (t2) | exact QCd (t3)); exact rfl) | refine SC ?_ | (refine W.condA (ht := fun hb => ?_) (hf := fun hb => ?_) <;> (try simp at hb) <;> (try (exfalso; omega))))
        exact Fin.ret ResL.auto
theorem div_ok (a b : List Int) (na : Norm a) (nb : Norm b) (hl : a.length ≤ 100000) (hl' : b.length ≤ 100000) (hb : b ≠ []) : ACalls Tryz.prog 94 [slI a, slI b] (.tup [slI (digs (val a / val b)), slI (digs (val a % val b))]) := by
  by_cases h : val a < val b
  · exact div_lt a b na nb hl hl' h
  · have := List.length_pos_iff.2 hb
    by_cases h2 : b.length = 1
    · exact div_one a b na nb hl h2 (by omega)
    · exact div_long a b na nb hl (by omega) (by omega)
end Go.Proofs.YtjedkgogjehigaaGreat
end
section
set_option linter.unusedVariables false
set_option linter.unusedSimpArgs false
set_option maxHeartbeats 8000000
set_option linter.unusedSectionVars false
namespace Go.Proofs.YtjedkgogjehigaaGreat
open Lf Go
attribute [local irreducible] PureOp EffOp Ev RG W Then InBlock Lf.Fin nth App InitE Pick SubE EvL EvD EvP EvR ResL Lf.Lex SubR SubBR RA RAll EvC FinO FinM ResM ResD FinS val pw digs trimL
theorem right_ok (s : Int) (l : List Int) (hl : l.length ≤ 1000000) : ACalls Tryz.prog 61 [aB s l] (.pv (cB (rightB s l))) := by
  refine ACalls.of_W (qs := [cB (rightB s l)]) [2] 49 Tryz.func61 (by kernel_rfl) rfl rfl rfl fun G => ?_
  refine W.initA (hw := ?_)
  repeat' (first | ((first | apply U_ | (apply Ug_; exact rfl; exact rfl) | (apply Ugq_; exact rfl; exact rfl)); (first | exact QX.B TYok | exact QX.Len TYok | exact QX.Idx TYok); exact rfl) | refine SX.Box TYok (h := ?_) | refine SC ?_ | (apply S_isnil TYok; exact rfl; exact rfl; exact rfl; exact Ev.auto; intro bn hnil) | refine SG ?_ | (refine W.condA (ht := fun hb => ?_) (hf := fun hb => ?_) <;> (try simp at hb) <;> (try (exfalso; omega))))
  apply W.loopP (σ := Nat) 49 [1, 3, 10, 11] (fun k => k ≤ l.length ∧ l.all digB = (l.drop k).all digB) (fun k => [(12, vI k)]) (fun _ => [(1, ⟨38, 2, [[.int .i64 s, .sl (l.map Lf.encI)]]⟩)]) (fun k => l.length - k) (0)
  case hp => repeat (first | exact Pick.nil | apply Pick.cons rfl)
  case h0 =>
    refine ⟨by simp, ?_⟩
    exact Le.auto
  case round =>
    rintro k ⟨g1, g2⟩
    apply W.norm (by repeat (first | exact App.nil | apply App.cons))
    by_cases hk : k < l.length
    · have e : l.all digB = (digB (nth l k) && (l.drop (k + 1)).all digB) := by rw [g2, drop_nth hk, List.all_cons]
      repeat' (first | ((first | apply U_ | (apply Ug_; exact rfl; exact rfl) | (apply Ugq_; exact rfl; exact rfl)); (first | exact QX.B TYok | exact QX.Len TYok | exact QX.Idx TYok); exact rfl) | refine SX.Box TYok (h := ?_) | refine SC ?_ | (apply S_isnil TYok; exact rfl; exact rfl; exact rfl; exact Ev.auto; intro bn hnil) | refine SG ?_ | (refine W.condA (ht := fun hb => ?_) (hf := fun hb => ?_) <;> (try simp at hb) <;> (try (exfalso; omega))))
      · have e2 : rightB s l = false := by
          rw [rightB, e, show digB (nth l k) = false by
            simp only [digB, Bool.and_eq_false_iff, decide_eq_false_iff_not]; omega]; rfl
        rw [e2]
        exact Fin.ret ResL.auto
      · refine ⟨k + 1, ⟨by omega, ?_⟩, ?_, by omega⟩
        · rw [e, show digB (nth l k) = true by
            simp only [digB, Bool.and_eq_true, decide_eq_true_iff]; omega]; rfl
        · exact Le.auto
    · obtain rfl : k = l.length := by omega
      have e : l.all digB = true := by rw [g2, List.drop_length]; rfl
      by_cases h0 : l.length = 0
      · have e2 : rightB s l = decide (s = 0) := by rw [rightB, e, if_pos h0]; rfl
        repeat' (first | ((first | apply U_ | (apply Ug_; exact rfl; exact rfl) | (apply Ugq_; exact rfl; exact rfl)); (first | exact QX.B TYok | exact QX.Len TYok | exact QX.Idx TYok); exact rfl) | refine SX.Box TYok (h := ?_) | refine SC ?_ | (apply S_isnil TYok; exact rfl; exact rfl; exact rfl; exact Ev.auto; intro bn hnil) | refine SG ?_ | (refine W.condA (ht := fun hb => ?_) (hf := fun hb => ?_) <;> (try simp at hb) <;> (try (exfalso; omega))))
        · rw [e2]
          exact Fin.ret ResL.auto
        · exact absurd (List.length_eq_zero_iff.1 h0) hb
      · have e2 : rightB s l = ((decide (s = 1) || decide (s = -1)) && decide ((l.length : Int) ≤ 60) && !decide (nth l ((l.length : Int) - 1).toNat = 0)) := by
          rw [rightB, e, if_neg h0, show ((l.length : Int) - 1).toNat = l.length - 1 by omega, show decide (l.length ≤ 60) = decide ((l.length : Int) ≤ 60) from decide_eq_decide.2 (by omega)]; rfl
        repeat' (first | ((first | apply U_ | (apply Ug_; exact rfl; exact rfl) | (apply Ugq_; exact rfl; exact rfl)); (first | exact QX.B TYok | exact QX.Len TYok | exact QX.Idx TYok); exact rfl) | refine SX.Box TYok (h := ?_) | refine SC ?_ | (apply S_isnil TYok; exact rfl; exact rfl; exact rfl; exact Ev.auto; intro bn hnil) | refine SG ?_ | (refine W.condA (ht := fun hb => ?_) (hf := fun hb => ?_) <;> (try simp at hb) <;> (try (exfalso; omega))))
        · exact absurd (by rw [hb]; rfl) h0
        · rw [e2]
          exact Fin.ret ResL.auto
theorem right_yes {x : Int} (h : okZ x) : ACalls Tryz.prog 61 [zB x] (.pv (cB true)) := by
  rw [← num_right h]; exact right_ok _ _ (by have := num_len h; omega)
theorem signed_ok (s : Int) (l : List Int) (dl : Dig l) (hl : l.length ≤ 1000000) (z : Int) (hs : s = 1 ∨ s = -1 ∨ val l = 0) (hz : z = s * val l) : ACalls Tryz.prog 95 [cI s, slI l] (.pv (zB z)) := by
  obtain ⟨e1, e2⟩ := num_of (val_lo dl) hs hz
  have h1 := trim_ok l (by omega)
  rw [trim_digs dl] at h1
  rw [show zB z = aB (if val l = 0 then 0 else s) (digs (val l)) by rw [zB, e1, e2]]
  have h3 : (digs (val l)).length = 0 ↔ val l = 0 := by rw [List.length_eq_zero_iff, digs_nil (val_lo dl)]
  have h4 : (digs (val l)).length ≤ l.length := by rw [← trim_digs dl]; exact trimL_len l
  generalize digs (val l) = D at *
  refine ACalls.of_M TYok (qs := [aB (if val l = 0 then 0 else s) D]) [.cell 4 38] 14 Tryz.func95 (by kernel_rfl) rfl rfl rfl fun G => ?_
  refine W.initA (hw := ?_)
  repeat' (first | ((first | apply U_); (first | exact QX.B TYok | exact QX.Len TYok | exact QX.Build TYok | exact QCd (h1)); exact rfl) | refine SX.Alloc TYok (h := ?_) | refine SX.Store TYok (h := ?_) | refine SC ?_ | (apply S_isnil TYok; exact rfl; exact rfl; exact rfl; exact Ev.auto; intro bn hnil) | (refine W.condA (ht := fun hb => ?_) (hf := fun hb => ?_) <;> (try simp at hb) <;> (try (exfalso; omega))))
  · rw [hb, if_pos (h3.1 (by rw [hb]; rfl))]
    exact FinM.ret (ResM.cell rfl rfl rfl rfl zeroSub ResM.nil)
  · rw [if_neg (fun h => hb (List.length_eq_zero_iff.1 (h3.2 h)))]
    exact FinM.ret ResM.auto
/-- what is not too great -/
def fullZ (z : Int) : Int := if mag z < pw 60 then z else 0
def fullE (z : Int) : Int := if mag z < pw 60 then 0 else 6
theorem checked_yes (z : Int) (hl : (digs (mag z)).length ≤ 1000000) : ACalls Tryz.prog 93 [cB true, zB z] (.tup [zB (fullZ z), cI (fullE z)]) := by
  have h1 : (digs (mag z)).length ≤ 60 ↔ mag z < pw 60 := digs_len (mag_nn z)
  by_cases h : mag z < pw 60
  · rw [fullZ, fullE, if_pos h, if_pos h]
    have h2 := h1.2 h
    refine ACalls.of_M TYok (qs := [zB z, cI 0]) [.cell 4 38, .tmp 5] 17 Tryz.func93 (by kernel_rfl) rfl rfl rfl fun G => ?_
    refine W.initA (hw := ?_)
    repeat' (first | ((first | apply U_); (first | exact QX.B TYok | exact QX.Len TYok | exact QX.Build TYok); exact rfl) | refine SX.Alloc TYok (h := ?_) | refine SX.Store TYok (h := ?_) | refine SX.Box TYok (h := ?_) | refine SC ?_ | (refine W.condA (ht := fun hb => ?_) (hf := fun hb => ?_) <;> (try simp at hb) <;> (try (exfalso; omega))))
    exact FinM.ret ResM.auto
  · rw [fullZ, fullE, if_neg h, if_neg h]
    have h2 : ¬ (digs (mag z)).length ≤ 60 := fun q => h (h1.1 q)
    refine ACalls.of_M TYok (qs := [zB 0, cI 6]) [.cell 4 38, .tmp 5] 17 Tryz.func93 (by kernel_rfl) rfl rfl rfl fun G => ?_
    refine W.initA (hw := ?_)
    repeat' (first | ((first | apply U_); (first | exact QX.B TYok | exact QX.Len TYok | exact QX.Build TYok); exact rfl) | refine SX.Alloc TYok (h := ?_) | refine SX.Store TYok (h := ?_) | refine SX.Box TYok (h := ?_) | refine SC ?_ | (refine W.condA (ht := fun hb => ?_) (hf := fun hb => ?_) <;> (try simp at hb) <;> (try (exfalso; omega))))
    exact FinM.ret (ResM.cell rfl rfl rfl rfl zeroSubZ (ResM.tmp rfl rfl PSub.rfl' ResM.nil))
theorem orTwo_ok (x y : Int) : ACalls Tryz.prog 147 [slI [x, y]] (.pv (cI (if x = 0 then y else x))) := by
  have e0 : nth [x, y] 0 = x := by simp [nth]
  have e1 : nth [x, y] 1 = y := by simp [nth]
  have hl : [x, y].length = 2 := rfl
  generalize [x, y] = l at *
  refine ACalls.of_W (qs := [cI (if x = 0 then y else x)]) [2] 18 Tryz.func147 (by kernel_rfl) rfl rfl rfl fun G => ?_
  refine W.initA (hw := ?_)
  repeat' (first | ((first | apply U_); (first | exact QX.B TYok | exact QX.Len TYok | exact QX.Idx TYok); exact rfl) | refine SC ?_ | (refine W.condA (ht := fun hb => ?_) (hf := fun hb => ?_) <;> (try simp at hb) <;> (try (exfalso; omega))))
  apply W.loopP (σ := Nat) 18 [3, 6, 7] (fun k => k ≤ 2 ∧ (0 < k → x = 0) ∧ (1 < k → y = 0)) (fun k => [(8, vI k)]) (fun _ => []) (fun k => 2 - k) (0)
  case hp => repeat (first | exact Pick.nil | apply Pick.cons rfl)
  case h0 =>
    refine ⟨by simp, ?_⟩
    exact Le.auto
  case round =>
    rintro k ⟨g1, g2, g3⟩
    have hk : k = 0 ∨ k = 1 ∨ k = 2 := by omega
    have f0 : k = 0 → nth l k = x := by rintro rfl; exact e0
    have f1 : k = 1 → nth l k = y := by rintro rfl; exact e1
    apply W.norm (by repeat (first | exact App.nil | apply App.cons))
    repeat' (first | ((first | apply U_); (first | exact QX.B TYok | exact QX.Len TYok | exact QX.Idx TYok); exact rfl) | refine SC ?_ | (refine W.condA (ht := fun hb => ?_) (hf := fun hb => ?_) <;> (try simp at hb) <;> (try (exfalso; omega))))
    · have : nth l k = if x = 0 then y else x := by
        by_cases h : x = 0
        · rw [if_pos h]; omega
        · rw [if_neg h]; omega
      rw [← this]
      exact Fin.ret ResL.auto
    · refine ⟨k + 1, ⟨by omega, by omega, by omega⟩, ?_, by omega⟩
      exact Le.auto
    · have : (if x = 0 then y else x) = 0 := by rw [if_pos (g2 (by omega)), g3 (by omega)]
      rw [this]
      exact Fin.ret ResL.auto
theorem neg_ok (x : Int) (hx : okZ x) : ACalls Tryz.prog 97 [zB x] (.pv (zB (-x))) := by
  have h1 := right_yes hx
  have h2 := num_len hx
  have h3 := clone_ok (digs (mag x)) (by omega)
  have h4 := signed_ok (-(sgn x)) (digs (mag x)) (digs_norm _).dig (by omega) (-x) (by have := sgn_cases x; rw [val_mag]; omega) (by rw [val_mag, Int.neg_mul, sgn_mag])
  have hc := sgn_cases x
  refine ACalls.of_M TYok (qs := [zB (-x)]) [.cell 2 38] 14 Tryz.func97 (by kernel_rfl) rfl rfl rfl fun G => ?_
  refine W.initA (hw := ?_)
  repeat' (first | ((first | apply U_ | apply Lex.u | (apply Lex.g; exact rfl; exact rfl) | (apply Lex.gq; exact rfl; exact rfl)); (first | exact QX.B TYok | exact QX.Build TYok | exact QCl (h1) | exact QCd (h3.data rfl) | exact QCd (h4)); exact rfl) | refine SX.Alloc TYok (h := ?_) | refine SX.Store TYok (h := ?_) | refine SX.Box TYok (h := ?_) | refine SC ?_ | (apply W.draw2 (id := 3) [0, 1, 3, 0, 8, 24, 63, 127] [[1], [7], [8], [1], [10], [11], [9, 12]] 7 [(7, 2), (8, 128), (9, 256), (10, 2), (11, 1024), (12, 2048), (13, 4608)] mixed (by kernel_rfl) rfl rfl) | (refine W.condA (ht := fun hb => ?_) (hf := fun hb => ?_) <;> (try simp at hb) <;> (try (exfalso; omega))))
  exact FinM.ret ResM.auto
theorem mul_sgn (x y : Int) : -1 ≤ sgn x * sgn y ∧ sgn x * sgn y ≤ 1 := by
  have h1 := sgn_cases x
  have h2 := sgn_cases y
  rcases h1 with h | h | h <;> rcases h2 with h' | h' | h' <;> rw [h.1, h'.1] <;> decide
theorem mulZ_ok (x y : Int) (hx : okZ x) (hy : okZ y) : ACalls Tryz.prog 101 [zB x, zB y] (.tup [zB (fullZ (x * y)), cI (fullE (x * y))]) := by
  have h1 := right_yes hx
  have h2 := right_yes hy
  have l1 := num_len hx
  have l2 := num_len hy
  have h3 := mul_ok (digs (mag x)) (digs (mag y)) (digs_norm _).dig (digs_norm _).dig (by omega) (by omega)
  rw [val_mag, val_mag] at h3
  have hs := mul_sgn x y
  have m0 : 0 ≤ mag x * mag y := Int.mul_nonneg (mag_nn x) (mag_nn y)
  have m1 : mag x * mag y < pw 120 := by
    have a1 : mag x * mag y ≤ mag x * pw 60 := Int.mul_le_mul_of_nonneg_left (by have := hy; unfold okZ at this; omega) (mag_nn x)
    have a2 : mag x * pw 60 < pw 60 * pw 60 := Int.mul_lt_mul_of_pos_right hx (pw_pos 60)
    have a3 : pw 120 = pw 60 * pw 60 := pw_add 60 60
    omega
  have l3 : (digs (mag x * mag y)).length ≤ 120 := (digs_len m0).2 m1
  have hsm : sgn x * sgn y = 1 ∨ sgn x * sgn y = -1 ∨ mag x * mag y = 0 := by
    have c1 := sgn_cases x
    have c2 := sgn_cases y
    rcases c1 with h | h | h <;> rcases c2 with h' | h' | h' <;> rw [h.1, h'.1] <;> simp [h.2.2, h'.2.2]
  have hz : x * y = sgn x * sgn y * (mag x * mag y) := by
    have e1 := sgn_mag x
    have e2 := sgn_mag y
    generalize sgn x = s1 at *
    generalize sgn y = s2 at *
    generalize mag x = p1 at *
    generalize mag y = p2 at *
    subst e1; subst e2; grind
  have h4 := signed_ok (sgn x * sgn y) (digs (mag x * mag y)) (digs_norm _).dig (by omega) (x * y) (by rw [val_digs m0]; exact hsm) (by rw [val_digs m0]; exact hz)
  obtain ⟨e1, e2⟩ := num_of m0 hsm hz
  have h5 := checked_yes (x * y) (by rw [e1]; omega)
  generalize x * y = z at *
  refine ACalls.of_M TYok (qs := [zB (fullZ z), cI (fullE z)]) [.cell 4 38, .tmp 5] 32 Tryz.func101 (by kernel_rfl) rfl rfl rfl fun G => ?_
  refine W.initA (hw := ?_)
  repeat' (first | ((first | apply U_ | (apply Ug_; exact rfl; exact rfl) | (apply Ugq_; exact rfl; exact rfl) | apply Lex.u | (apply Lex.g; exact rfl; exact rfl) | (apply Lex.gq; exact rfl; exact rfl)); (first | exact QX.B TYok | exact QX.Ext TYok | exact QX.Build TYok | exact QCl (h1) | exact QCl (h2) | exact QCd (h3) | exact QCd (h4) | exact QCd (h5)); exact rfl) | refine SX.Alloc TYok (h := ?_) | refine SX.Store TYok (h := ?_) | refine SX.Box TYok (h := ?_) | refine SC ?_ | refine SG ?_ | (apply W.draw2 (id := 3) [0, 1, 0, 4, 15, 0, 32, 0, 128, 480, 1023, 2047, 4095, 4095, 16383, 32767] [[2], [18], [3], [20], [19, 21], [2], [23], [3], [25], [24, 26], [22, 27], [28], [29], [29]] 14 [(18, 4), (19, 262144), (20, 8), (21, 1048576), (22, 2621440), (23, 4), (24, 8388608), (25, 8), (26, 33554432), (27, 83886080), (28, 138412032), (29, 268435456), (30, 536870912), (31, 536870912)] mixed (by kernel_rfl) rfl rfl) | (refine W.condA (ht := fun hb => ?_) (hf := fun hb => ?_) <;> (try simp at hb) <;> (try (exfalso; omega))))
  exact FinM.ret ResM.auto
end Go.Proofs.YtjedkgogjehigaaGreat
end
section
set_option linter.unusedVariables false
set_option linter.unusedSimpArgs false
namespace Lf
open Go Go.RowKit
def bitN (m e : Nat) : Bool := Nat.beq (m / 2 ^ e % 2) 1
theorem bitN_eq (m e : Nat) : bitN m e = m.testBit e := by
  rw [Nat.testBit_eq_decide_div_mod_eq, bitN]
  by_cases h : m / 2 ^ e % 2 = 1
  · rw [h]; rfl
  · rw [decide_eq_false h]
    cases hb : Nat.beq (m / 2 ^ e % 2) 1 with
    | false => rfl
    | true => exact absurd (Nat.eq_of_beq_eq_true hb) h
abbrev Effs := List (Nat × (Nat × Blk))
def bL (L : Nat → Bool) : Effs → List (Nat × Blk) → List (Nat × Blk)
  | [], bl => bl
  | (e, x) :: r, bl => bif L e then x :: bL L r bl else bL L r bl
theorem bL_eq (L : Nat → Bool) (bl : List (Nat × Blk)) : ∀ effs : Effs, bL L effs bl = (effs.filter fun x => L x.1).map (·.2) ++ bl
  | [] => rfl
  | (e, x) :: r => by
    rw [bL, bL_eq L bl r, List.filter_cons]
    cases h : L e <;> simp [h]
theorem lk_app {α : Type _} : ∀ (a b : List (Nat × α)) (k : Nat), lk (a ++ b) k = match lk a k with | some x => some x | none => lk b k
  | [], b, k => rfl
  | (t, x) :: r, b, k => by
    rw [List.cons_append, lk_cons, lk_cons]
    split
    · rfl
    · exact lk_app r b k
theorem lk_of_mem {α : Type _} : ∀ {l : List (Nat × α)} {k : Nat} {x : α}, (k, x) ∈ l → (∀ y, (k, y) ∈ l → y = x) → lk l k = some x
  | (t, y) :: r, k, x, h, hf => by
    rw [lk_cons]
    by_cases e : t = k
    · subst e; rw [if_pos rfl, hf y (by simp)]
    · rw [if_neg e]
      rcases List.mem_cons.1 h with h | h
      · injection h with h1 h2; exact absurd h1.symm e
      · exact lk_of_mem h fun z hz => hf z (List.mem_cons_of_mem _ hz)
def ndB : List Nat → Bool
  | [] => true
  | x :: r => r.all (fun y => !Nat.beq x y) && ndB r
theorem ndB_inj {α : Type _} {f : α → Nat} : ∀ {l : List α}, ndB (l.map f) = true → ∀ a ∈ l, ∀ b ∈ l, f a = f b → a = b
  | x :: r, h, a, ha, b, hb, e => by
    rw [List.map_cons, ndB, Bool.and_eq_true] at h
    have h1 : ∀ y ∈ r, f x ≠ f y := fun y hy q => by
      have := List.all_eq_true.1 h.1 (f y) (List.mem_map_of_mem hy)
      rw [q] at this; simp at this
    rcases List.mem_cons.1 ha with ha' | ha' <;> rcases List.mem_cons.1 hb with hb' | hb'
    · rw [ha', hb']
    · subst ha'; exact absurd e (h1 b hb')
    · subst hb'; exact absurd e.symm (h1 a ha')
    · exact ndB_inj h.2 a ha' b hb' e
structure EffsOk (effs : Effs) (bl : List (Nat × Blk)) : Prop where
  fn : ∀ e d B e' B', (e, (d, B)) ∈ effs → (e', (d, B')) ∈ effs → e = e' ∧ B = B'
  ix : ∀ e d B d' B', (e, (d, B)) ∈ effs → (e, (d', B')) ∈ effs → d = d' ∧ B = B'
  fr : ∀ e d B, (e, (d, B)) ∈ effs → lk bl d = none
theorem EffsOk.of {effs : Effs} {bl : List (Nat × Blk)} (h1 : ndB (effs.map (·.1)) = true) (h2 : ndB (effs.map (·.2.1)) = true) (h3 : effs.all (fun x => (lk bl x.2.1).isNone) = true) : EffsOk effs bl where
  fn e d B e' B' a b := by have := ndB_inj h2 _ a _ b rfl; cases this; exact ⟨rfl, rfl⟩
  ix e d B d' B' a b := by have := ndB_inj h1 _ a _ b rfl; cases this; exact ⟨rfl, rfl⟩
  fr e d B a := by have := List.all_eq_true.1 h3 _ a; simpa using this
theorem mem_F {L : Nat → Bool} {effs : Effs} {k : Nat} {C : Blk} : (k, C) ∈ (effs.filter fun x => L x.1).map (·.2) ↔ ∃ e, (e, (k, C)) ∈ effs ∧ L e = true := by
  rw [List.mem_map]
  constructor
  · rintro ⟨⟨e, d, B⟩, h, h2⟩
    cases h2
    rw [List.mem_filter] at h
    exact ⟨e, h.1, h.2⟩
  · rintro ⟨e, h1, h2⟩
    exact ⟨(e, (k, C)), List.mem_filter.2 ⟨h1, h2⟩, rfl⟩
theorem lk_bL {L : Nat → Bool} {effs : Effs} {bl : List (Nat × Blk)} (ho : EffsOk effs bl) {k : Nat} {C : Blk} : lk (bL L effs bl) k = some C ↔ (∃ e, (e, (k, C)) ∈ effs ∧ L e = true) ∨ lk bl k = some C := by
  rw [bL_eq, lk_app]
  constructor
  · intro h
    cases hF : lk ((effs.filter fun x => L x.1).map (·.2)) k with
    | some B =>
      rw [hF] at h
      obtain rfl := Option.some.inj h
      exact .inl (mem_F.1 (lk_mem hF))
    | none => rw [hF] at h; exact .inr h
  · rintro (⟨e, h1, h2⟩ | h)
    · have hm : (k, C) ∈ (effs.filter fun x => L x.1).map (·.2) := mem_F.2 ⟨e, h1, h2⟩
      rw [lk_of_mem hm fun B hB => by
        obtain ⟨e', h3, _⟩ := mem_F.1 hB
        exact (ho.fn _ _ _ _ _ h3 h1).2]
    · cases hF : lk ((effs.filter fun x => L x.1).map (·.2)) k with
      | none => exact h
      | some B =>
        obtain ⟨e, h1, _⟩ := mem_F.1 (lk_mem hF)
        rw [ho.fr _ _ _ h1] at h; cases h
theorem AVRel.sub {Φ : Frz} {β : Own} {bl bl' : List (Nat × Blk)} {v : Value} {x : AV} (h : AVRel Φ β bl' v x) (hs : ∀ k, x.ment k = true → lk bl k = lk bl' k) : AVRel Φ β bl v x := by
  cases x with
  | pv p => exact h
  | tup l => exact h
  | top => trivial
  | addr n i off =>
    obtain ⟨b, cap, B, h1, h2, h3, h4⟩ := h
    exact ⟨b, cap, B, h1, by rw [hs n (Nat.beq_refl n)]; exact h2, h3, h4⟩
  | slc n =>
    obtain ⟨B, h1, h2, h3⟩ := h
    exact ⟨B, by rw [hs n (Nat.beq_refl n)]; exact h1, h2, h3⟩
  | mp n =>
    obtain ⟨b, cap, B, h1, h2, h3, h4⟩ := h
    exact ⟨b, cap, B, h1, by rw [hs n (Nat.beq_refl n)]; exact h2, h3, h4⟩
  | mpn n bb =>
    obtain ⟨b, cap, B, h1, h2, h3, h4⟩ := h
    exact ⟨b, cap, B, h1, by rw [hs n (Nat.beq_refl n)]; exact h2, h3, h4⟩
  | itr d n =>
    obtain ⟨b, cap, B, M, c, h1, h2, h3, h4, h5, h6, h7, h8⟩ := h
    exact ⟨b, cap, B, M, c, h1, by rw [hs d (by simp [AV.ment])]; exact h2, h3, h4, by rw [hs n (by simp [AV.ment])]; exact h5, h6, h7, h8⟩
  | pin n b c f =>
    obtain ⟨B, h1, h2, h3, h4⟩ := h
    exact ⟨B, h1, by rw [hs n (Nat.beq_refl n)]; exact h2, h3, h4⟩
theorem AVRel.sup {Φ : Frz} {β : Own} {bl bl' : List (Nat × Blk)} {v : Value} {x : AV} (h : AVRel Φ β bl v x) (hs : ∀ k C, lk bl k = some C → lk bl' k = some C) : AVRel Φ β bl' v x := by
  cases x with
  | pv p => exact h
  | tup l => exact h
  | top => trivial
  | addr n i off =>
    obtain ⟨b, cap, B, h1, h2, h3, h4⟩ := h
    exact ⟨b, cap, B, h1, hs _ _ h2, h3, h4⟩
  | slc n =>
    obtain ⟨B, h1, h2, h3⟩ := h
    exact ⟨B, hs _ _ h1, h2, h3⟩
  | mp n =>
    obtain ⟨b, cap, B, h1, h2, h3, h4⟩ := h
    exact ⟨b, cap, B, h1, hs _ _ h2, h3, h4⟩
  | mpn n bb =>
    obtain ⟨b, cap, B, h1, h2, h3, h4⟩ := h
    exact ⟨b, cap, B, h1, hs _ _ h2, h3, h4⟩
  | itr d n =>
    obtain ⟨b, cap, B, M, c, h1, h2, h3, h4, h5, h6, h7, h8⟩ := h
    exact ⟨b, cap, B, M, c, h1, hs _ _ h2, h3, h4, hs _ _ h5, h6, h7, h8⟩
  | pin n b c f =>
    obtain ⟨B, h1, h2, h3, h4⟩ := h
    exact ⟨B, h1, hs _ _ h2, h3, h4⟩
theorem Sat.subB {G : Ghost} {Φ : Frz} {β : Own} {n : Nat} {env env' : Env} {bl bl' : List (Nat × Blk)} {a : Act} {w : World} (h : Sat G Φ β (St.mk n env' bl') a w) (hb : ∀ k C, lk bl k = some C → lk bl' k = some C)
    (he : ∀ t q v, lk env t = some (q, v) → lk env' t = some (q, v) ∧ ∀ k, v.ment k = true → lk bl k = lk bl' k) : Sat G Φ β (St.mk n env bl) a w :=
  ⟨h.kept, h.fits, h.old, h.siz, h.dfr, fun t q v hl => by
    obtain ⟨h1, h2⟩ := he t q v hl
    exact ⟨fun hq => ((h.env t q v h1).1 hq).sub h2, (h.env t q v h1).2⟩,
   fun k B b cap hl => h.blk k B b cap (hb _ _ hl), fun k B hl => h.vir k B (hb _ _ hl), fun k k' B B' b c c' h1 h2 => h.inj k k' B B' b c c' (hb _ _ h1) (hb _ _ h2)⟩
/-- A literal that can be made in every state that knows as1 much. -/
def FreshAt (P : Program) (G : Ghost) (n : Nat) (E : Env) (o : Oper) (d : Nat) (B : Blk) : Prop :=
  ∀ E' bl', (∀ t e, lk E t = some e → lk E' t = some e) → lk bl' d = none → EffOp P G (St.mk n E' bl') o (St.mk n ((d, (True, .slc d)) :: E') ((d, B) :: bl'))
theorem EvR.more {n : Nat} {E E' : Env} {b b' : List (Nat × Blk)} (h : ∀ t e, lk E t = some e → lk E' t = some e) : ∀ {ps : List (Nat × Operand)} {k : Nat} {rs : List (List Cell)}, EvR (St.mk n E b) ps k rs → EvR (St.mk n E' b') ps k rs
  | [], _, [], _ => trivial
  | (i, x) :: xs, k, r :: rs, ⟨⟨h1, q, ⟨p, h2, h3⟩, h4⟩, h5⟩ => ⟨⟨h1, q, ⟨p, by
      cases x with
      | tmp t => exact h t _ h2
      | const v => exact h2
      | func f => exact h2
      | global g => exact h2, h3⟩, h4⟩, EvR.more h h5⟩
def StepE (P : Program) (G : Ghost) (ops : Array Oper) (n : Nat) (bl : List (Nat × Blk)) (effs : Effs) (i my : Nat) (E : Env) (o : Oper) (d : Nat) (p : Prop) (v : AV) : Prop :=
  GOk (St.mk n E (bL (bitN my) effs bl)) ops o p ∧ ((PureOp P G (St.mk n E (bL (bitN my) effs bl)) o p v ∧ ∀ x ∈ effs, x.1 ≠ i) ∨ ∃ B, (i, (d, B)) ∈ effs ∧ v = .slc d ∧ p ∧ FreshAt P G n E o d B) ∧
    ∀ x ∈ effs, bitN my x.1 = false → ∀ t e, lk E t = some e → e.2.ment x.2.1 = false
def LexE (P : Program) (G : Ghost) (ops : Array Oper) (n : Nat) (bl : List (Nat × Blk)) (effs : Effs) : List Oper → Nat → List (List Nat) → List Nat → Env → (Env → Prop) → Prop
  | [], _, _, _, env, K => K env
  | o :: rest, i, tss, ms, env, K => ∃ d p v, o.dst = some d ∧ d < n ∧ StepE P G ops n bl effs i (ms.headD 0) (only (tss.headD []) env) o d p v ∧ LexE P G ops n bl effs rest (i + 1) tss.tail ms.tail ((d, (p, v)) :: env) K
section
variable {P : Program} {G : Ghost} {ops : Array Oper} {n : Nat} {bl : List (Nat × Blk)} {effs : Effs}
theorem LexE.vals : ∀ {l : List Oper} {i0 : Nat} {tss : List (List Nat)} {ms : List Nat} {env : Env} {K : Env → Prop}, LexE P G ops n bl effs l i0 tss ms env K →
    ∃ vals : Env, vals.length = l.length ∧ K (eL (fun _ => true) 0 vals env) ∧ ∀ i o, l[i]? = some o → ∃ d p v, vals[i]? = some (d, (p, v)) ∧ o.dst = some d ∧ d < n ∧
      StepE P G ops n bl effs (i0 + i) (ms.getD i 0) (only (tss.getD i []) (eL (fun j => decide (j < i)) 0 vals env)) o d p v
  | [], i0, tss, ms, env, K, h => ⟨[], rfl, h, fun i o hi => by simp at hi⟩
  | o :: rest, i0, tss, ms, env, K, ⟨d, p, v, h1, h2, h3, h5⟩ => by
    obtain ⟨vals, g1, g2, g3⟩ := LexE.vals h5
    have shift : ∀ (L : Nat → Bool) (vals : Env) (k : Nat) (env : Env), eL L (k + 1) vals env = eL (fun j => L (j + 1)) k vals env := by
      intro L vals
      induction vals with
      | nil => intro k env; rfl
      | cons x r ih => intro k env; rw [eL, eL, ih]
    refine ⟨(d, (p, v)) :: vals, by simp [g1], ?_, fun i o' hi => ?_⟩
    · rw [eL, if_pos rfl, shift]; exact g2
    · cases i with
      | zero =>
        simp at hi; subst hi
        have hz : eL (fun j => decide (j < 0)) 0 ((d, (p, v)) :: vals) env = env := by
          have : (fun j => decide (j < 0)) = fun _ : Nat => false := by funext j; simp
          rw [this, eL_none]
        have ht : tss.getD 0 [] = tss.headD [] := by cases tss <;> rfl
        have hm : ms.getD 0 0 = ms.headD 0 := by cases ms <;> rfl
        rw [hz, ht, hm]
        exact ⟨d, p, v, rfl, h1, h2, h3⟩
      | succ i =>
        obtain ⟨d', p', v', k1, k2, k3, k4⟩ := g3 i o' (by simpa using hi)
        have hz : eL (fun j => decide (j < i + 1)) 0 ((d, (p, v)) :: vals) env = eL (fun j => decide (j < i)) 0 vals ((d, (p, v)) :: env) := by
          rw [eL, if_pos (by simp), shift]
          congr 1
          funext j; simp
        have ht : tss.getD (i + 1) [] = tss.tail.getD i [] := by cases tss <;> simp
        have hm : ms.getD (i + 1) 0 = ms.tail.getD i 0 := by cases ms <;> simp
        rw [hz, ht, hm, show i0 + (i + 1) = i0 + 1 + i by omega]
        exact ⟨d', p', v', by simpa using k1, k2, k3, k4⟩
def noMent (d : Nat) : Env → Bool
  | [] => true
  | (_, (_, v)) :: r => !v.ment d && noMent d r
theorem noMent_eq (d : Nat) : ∀ E : Env, noMent d E = E.all fun y => !y.2.2.ment d
  | [] => rfl
  | (_, (_, v)) :: r => by rw [noMent, noMent_eq d r]; rfl
def cleanB : Effs → Nat → Env → Bool
  | [], _, _ => true
  | (e, (d, _)) :: r, my, E => (bitN my e || noMent d E) && cleanB r my E
theorem cleanB_eq (my : Nat) (E : Env) : ∀ effs : Effs, cleanB effs my E = effs.all fun x => bitN my x.1 || E.all fun y => !y.2.2.ment x.2.1
  | [] => rfl
  | (e, (d, B)) :: r => by rw [cleanB, cleanB_eq my E r, noMent_eq]; rfl
theorem clean_of {my : Nat} {E : Env} (h : cleanB effs my E = true) : ∀ x ∈ effs, bitN my x.1 = false → ∀ t e, lk E t = some e → e.2.ment x.2.1 = false := fun x hx hb t e hl => by
  rw [cleanB_eq] at h
  have := List.all_eq_true.1 h x hx
  rw [hb, Bool.false_or] at this
  have := List.all_eq_true.1 this _ (lk_mem hl)
  simpa using this
def offB (effs : Effs) (i : Nat) : Bool := effs.all fun x => !Nat.beq x.1 i
theorem off_of {i : Nat} (h : offB effs i = true) : ∀ x ∈ effs, x.1 ≠ i := fun x hx e => by
  have := List.all_eq_true.1 h x hx
  rw [e] at this; simp at this
theorem LexE.u {i my d : Nat} {op : Op} {ty : TypeId} {pos : String} {after : Array Edge} {ts : List Nat} {tss : List (List Nat)} {ms : List Nat} {rest : List Oper} {env : Env} {K : Env → Prop} {v : AV}
    (hp : PureOp P G (St.mk n (only ts env) (bL (bitN my) effs bl)) ⟨some d, op, ty, pos, after, none⟩ True v) (hn : Nat.blt d n = true) (ho : offB effs i = true) (hc : cleanB effs my (only ts env) = true) (h : LexE P G ops n bl effs rest (i + 1) tss ms ((d, (True, v)) :: env) K) : LexE P G ops n bl effs (⟨some d, op, ty, pos, after, none⟩ :: rest) i (ts :: tss) (my :: ms) env K :=
  ⟨d, True, v, rfl, blt_lt hn, ⟨GOk.none rfl, .inl ⟨hp, off_of ho⟩, clean_of hc⟩, h⟩
theorem mem_get {x : Nat × (Nat × Blk)} {k : Nat} (h : effs[k]? = some x) : x ∈ effs := List.mem_of_getElem? h
/-- a literal -/
theorem FreshAt.lit {T : Nat → Option TI} (hT : TOK P T) {E : Env} {B : Blk} {t e nn d : Nat} {ps : List (Nat × Operand)} {rs : List (List Cell)} {ti te : TI} {ty : TypeId} {pos : String} {after : Array Edge} {gd : Option (Nat × Bool)} (hx : EvR (St.mk n E []) ps 0 rs) (ht : T t = some ti) (hk : ti.kind = .slice e) (he : T e = some te) (hlen : rs.length = nn) (hrs : rs.all (fun r => Nat.beq r.length te.sz) = true)
    (hb : Nat.ble (nn * te.sz) 16777216 = true) (hn' : Nat.ble nn 16777216 = true) (hn : Nat.blt d n = true) (hB : (⟨e, te.sz, rs⟩ : Blk) = B) : FreshAt P G n E ⟨some d, .buildSlice t nn ps.toArray, ty, pos, after, gd⟩ d B := fun E' bl' hs hfr => by
  subst hB
  exact EffOp.fresh hfr (E_lit hT rfl rfl (blt_lt hn) ht hk he (EvR.more hs hx) hlen (fun r hr => Nat.eq_of_beq_eq_true (List.all_eq_true.1 hrs r hr)) (Nat.le_of_ble_eq_true hb) (Nat.le_of_ble_eq_true hn'))
theorem LexE.e {i my d k : Nat} {B : Blk} {op : Op} {ty : TypeId} {pos : String} {after : Array Edge} {ts : List Nat} {tss : List (List Nat)} {ms : List Nat} {rest : List Oper} {env : Env} {K : Env → Prop}
    (hk : effs[k]? = some (i, (d, B))) (hp : FreshAt P G n (only ts env) ⟨some d, op, ty, pos, after, none⟩ d B) (hn : Nat.blt d n = true) (hc : cleanB effs my (only ts env) = true) (h : LexE P G ops n bl effs rest (i + 1) tss ms ((d, (True, .slc d)) :: env) K) : LexE P G ops n bl effs (⟨some d, op, ty, pos, after, none⟩ :: rest) i (ts :: tss) (my :: ms) env K :=
  ⟨d, True, .slc d, rfl, blt_lt hn, ⟨GOk.none rfl, .inr ⟨B, mem_get hk, rfl, trivial, hp⟩, clean_of hc⟩, h⟩
end
end Lf
end
section
set_option linter.unusedVariables false
set_option linter.unusedSimpArgs false
namespace Lf
open Go Go.RowKit
section
variable {P : Program} {G : Ghost} {ops : Array Oper} {n : Nat} {bl : List (Nat × Blk)} {effs : Effs}
theorem lexF {l : List Oper} {ms : List Nat} {tss : List (List Nat)} {m : Nat} (hok : orderOk l ms tss m = true) (hml : m ≤ l.length) {vals env : Env} {Φ0 : Frz} {Qs : St → Prop} {Q' : Exit → Act → World → Prop} (hvl : vals.length = m) (ho : EffsOk effs bl)
    (hv : ∀ i o, i < m → l[i]? = some o → ∃ d p v, vals[i]? = some (d, (p, v)) ∧ o.dst = some d ∧ d < n ∧ StepE P G l.toArray n bl effs i (ms.getD i 0) (only (tss.getD i []) (eL (fun j => decide (j < i)) 0 vals env)) o d p v)
    (hin : ∀ x ∈ effs, x.1 < m)
    (hK : RG P G l.toArray (l.drop m) Qs (St.mk n (eL (fun _ => true) 0 vals env) (bL (fun _ => true) effs bl)))
    (hq : ∀ A' Φ' β' a' w', Qs A' → Sat G Φ' β' A' a' w' → Φ0.le Φ' → Q' .normal a' w') :
    ∀ (fuel : Nat) (L : Array Bool) (Φ : Frz) (β : Own) (a : Act) (w : World), fuel = un (fun j => L.getD j true) l.length → L.size = l.length → Closed l (fun j => L.getD j false) → (∀ j, m ≤ j → j < l.length → L.getD j true = false) → Φ0.le Φ →
      Sat G Φ β (St.mk n (eL (fun j => L.getD j false) 0 vals env) (bL (fun j => L.getD j false) effs bl)) a w → wpAny P .any l.toArray Q' fuel L a w := by
  have fin : ∀ (L : Nat → Bool) (Φ : Frz) (β : Own) (a : Act) (w : World), (∀ j, j < m → L j = true) → Sat G Φ β (St.mk n (eL L 0 vals env) (bL L effs bl)) a w → Sat G Φ β (St.mk n (eL (fun _ => true) 0 vals env) (bL (fun _ => true) effs bl)) a w := fun L Φ β a w hallf hsat => by
    refine hsat.subB (fun k C hk => ?_) fun t q v h => ⟨?_, fun k hk => ?_⟩
    · rcases (lk_bL ho).1 hk with ⟨e, h1, _⟩ | h
      · exact (lk_bL ho).2 (.inl ⟨e, h1, hallf e (hin _ h1)⟩)
      · exact (lk_bL ho).2 (.inr h)
    · rw [← h]
      refine eL_congr vals 0 env env rfl fun j x hj hx => ?_
      have hjl : j < m := by have := (List.getElem?_eq_some_iff.1 hj).1; omega
      simp only [Nat.zero_add]; exact hallf j hjl
    · refine Option.ext fun C => ?_
      rw [lk_bL ho, lk_bL ho]
      constructor
      · rintro (⟨e, h1, _⟩ | h)
        · exact .inl ⟨e, h1, hallf e (hin _ h1)⟩
        · exact .inr h
      · rintro (⟨e, h1, _⟩ | h)
        · exact .inl ⟨e, h1, rfl⟩
        · exact .inr h
  intro fuel
  induction fuel with
  | zero =>
    intro L Φ β a w hf hs hcl htl hle hsat
    have hall := un_zero _ hf.symm
    have hm : m = l.length := by
      rcases Nat.lt_or_ge m l.length with h | h
      · have h' : L.getD m true = true := hall m h
        rw [htl m (Nat.le_refl _) h] at h'; cases h'
      · omega
    have hallf : ∀ j, j < m → L.getD j false = true := fun j hj => by
      have := hall j (by omega)
      rw [Array.getD_eq_getD_getElem?, Array.getElem?_eq_getElem (by omega)] at this ⊢; exact this
    refine forced hok 0 m L a w (by omega) (Nat.le_refl _) hml hs (fun j hj => by have h' : L.getD j true = true := hall j hj; rw [h']; simp; omega) ?_
    exact hK Φ β a w (fin _ Φ β a w hallf hsat) Q' fun A' Φ' β' a' w' q s le => hq A' Φ' β' a' w' q s (Frz.le_trans hle le)
  | succ fuel ih =>
    intro L Φ β a w hf hs hcl htl hle hsat
    have hLf : ∀ j, j < l.length → L.getD j false = L.getD j true := fun j hj => by
      rw [Array.getD_eq_getD_getElem?, Array.getD_eq_getD_getElem?, Array.getElem?_eq_getElem (by omega)]; rfl
    by_cases hpre : ∀ j, j < m → L.getD j true = true
    · refine forced hok (fuel + 1) m L a w ?_ (Nat.le_refl _) hml hs (fun j hj => ?_) ?_
      · rw [hf, un_congr (L' := fun j => decide (j < m)) _ (fun j hj => ?_), un_lt _ hml]
        by_cases e : j < m
        · rw [hpre j e]; simp [e]
        · rw [htl j (by omega) hj]; simp [e]
      · by_cases e : j < m
        · rw [hpre j e]; simp [e]
        · rw [htl j (by omega) hj]; simp [e]
      · exact hK Φ β a w (fin _ Φ β a w (fun j hj => by rw [hLf j (by omega)]; exact hpre j hj) hsat) Q' fun A' Φ' β' a' w' q s le => hq A' Φ' β' a' w' q s (Frz.le_trans hle le)
    · have hex : ∃ y, y < m ∧ L.getD y true = false ∧ ∀ j, j < y → L.getD j true = true := by
        have : ∃ j, j < m ∧ L.getD j true = false := by
          refine Classical.byContradiction fun hno => hpre fun j hj => ?_
          cases hb : L.getD j true with
          | true => rfl
          | false => exact absurd ⟨j, hj, hb⟩ hno
        obtain ⟨j0, hj0, hb0⟩ := this
        have key : ∀ k, k ≤ m → (∀ j, j < k → L.getD j true = true) ∨ ∃ y, y < m ∧ L.getD y true = false ∧ ∀ j, j < y → L.getD j true = true := by
          intro k
          induction k with
          | zero => intro _; exact .inl fun j hj => by omega
          | succ k ihk =>
            intro hk
            rcases ihk (by omega) with h | h
            · cases hb : L.getD k true with
              | true =>
                refine .inl fun j hj => ?_
                by_cases e : j = k
                · rw [e]; exact hb
                · exact h j (by omega)
              | false => exact .inr ⟨k, by omega, hb, h⟩
            · exact .inr h
        rcases key m (Nat.le_refl _) with h | h
        · have := h j0 hj0; rw [hb0] at this; cases this
        · exact h
      obtain ⟨y, hym, hyu, hyl⟩ := hex
      have hylen : y < l.length := by omega
      refine ⟨fun hr => ?_, fun i hi => ?_⟩
      · exfalso
        have hmem : y ∈ Region.ready .any l.toArray L := ready_mk (o := l[y]) (List.getElem?_eq_getElem _) hyu (fun j hj => by
          have := (orderOk_at hok (List.getElem?_eq_getElem hylen)).1 j hj
          rw [hLf j (by omega)]; exact hyl j this)
        rw [hr] at hmem; cases hmem
      · obtain ⟨o, h1, h2, h3⟩ := mem_ready' hi
        have hil := (List.getElem?_eq_some_iff.1 h1).1
        have him : i < m := by
          rcases Nat.lt_or_ge i m with h | h
          · exact h
          · exfalso
            have hanc := (orderOk_at hok h1).2.2.2 h y (by omega)
            have := closed_anc hok hcl i o h1 h3 y hanc
            have this : L.getD y false = true := this
            rw [hLf y hylen, hyu] at this; cases this
        obtain ⟨d, p, v, g1, g2, g3, g4, g5, g6⟩ := hv i o him h1
        obtain ⟨_, hlooks, hord⟩ := (orderOk_at hok h1).2.2.1 him
        have hLi : L.getD i false = false := by rw [hLf i hil]; exact h2
        -- who writes what this operation looks at, or writes
        have before : ∀ j x, vals[j]? = some x → (x.1 ∈ looks l.toArray o ∨ x.1 = d) → j ≠ i → L.getD j false = decide (j < i) := fun j x hj hx hne => by
          have hjm : j < m := by have := (List.getElem?_eq_some_iff.1 hj).1; omega
          have hjl : j < l.length := by omega
          have hoj : l[j]? = some l[j] := List.getElem?_eq_getElem _
          obtain ⟨dj, pj, vj, q1, q2, _⟩ := hv j l[j] hjm hoj
          rw [hj] at q1
          obtain rfl := Option.some.inj q1
          simp only at hx
          rcases Nat.lt_or_ge j i with hlt | hge
          · have hc : clash l.toArray l[j] o = true := by
              unfold clash
              rw [q2, g2]
              rcases hx with hx | hx
              · have : (looks l.toArray o).any (Nat.beq dj) = true := List.any_eq_true.2 ⟨dj, hx, Nat.beq_refl _⟩
                simp [this]
              · subst hx; simp
            have := closed_anc hok hcl i o h1 h3 j (hord j _ hlt hoj hc)
            have this : L.getD j false = true := this
            rw [this]; simp [hlt]
          · have hgt : i < j := by omega
            have hc : clash l.toArray o l[j] = true := by
              unfold clash
              rw [q2, g2]
              rcases hx with hx | hx
              · have : (looks l.toArray o).any (Nat.beq dj) = true := List.any_eq_true.2 ⟨dj, hx, Nat.beq_refl _⟩
                simp [this]
              · subst hx; simp
            cases hb : L.getD j false with
            | false => simp; omega
            | true =>
              exfalso
              have hordj := ((orderOk_at hok hoj).2.2.1 hjm).2.2 i o hgt h1 hc
              have := closed_anc hok hcl j _ hoj (hcl j _ hoj hb) i hordj
              have this : L.getD i false = true := this
              rw [hLi] at this; cases this
        have hsame : ∀ t e, lk (only (tss.getD i []) (eL (fun j => decide (j < i)) 0 vals env)) t = some e → lk (eL (fun j => L.getD j false) 0 vals env) t = some e := fun t e h => by
          obtain ⟨ht, he⟩ := lk_only h
          rw [← he]
          refine eL_congr vals 0 env env rfl fun j x hj hx => ?_
          simp only [Nat.zero_add]
          by_cases hji : j = i
          · subst hji; rw [hLi]; simp
          · rcases hlooks t ht with hl1 | hl2
            · exact before j x hj (.inl (by rw [hx]; exact hl1)) hji
            · exfalso
              have hjm : j < m := by have := (List.getElem?_eq_some_iff.1 hj).1; omega
              have hoj : l[j]? = some (l[j]'(by omega)) := List.getElem?_eq_getElem _
              obtain ⟨dj, pj, vj, q1, q2, _⟩ := hv j _ hjm hoj
              rw [hj] at q1
              obtain rfl := Option.some.inj q1
              exact hl2 j _ hoj (by rw [q2]; simp only at hx; rw [hx])
        have anc : ∀ e, bitN (ms.getD i 0) e = true → L.getD e false = true := fun e he => closed_anc hok hcl i o h1 h3 e (by rw [← bitN_eq]; exact he)
        have incl : ∀ k C, lk (bL (bitN (ms.getD i 0)) effs bl) k = some C → lk (bL (fun j => L.getD j false) effs bl) k = some C := fun k C hk => by
          rcases (lk_bL ho).1 hk with ⟨e, h5, h6⟩ | h
          · exact (lk_bL ho).2 (.inl ⟨e, h5, anc e h6⟩)
          · exact (lk_bL ho).2 (.inr h)
        have hsub : Sat G Φ β (St.mk n (only (tss.getD i []) (eL (fun j => decide (j < i)) 0 vals env)) (bL (bitN (ms.getD i 0)) effs bl)) a w := hsat.subB incl fun t q v hl => ⟨hsame t _ hl, fun k hk => by
          refine Option.ext fun C => ⟨incl k C, fun h => ?_⟩
          rcases (lk_bL ho).1 h with ⟨e, h5, h6⟩ | h
          · cases hb : bitN (ms.getD i 0) e with
            | true => exact (lk_bL ho).2 (.inl ⟨e, h5, hb⟩)
            | false => have := g6 _ h5 hb t _ hl; rw [hk] at this; cases this
          · exact (lk_bL ho).2 (.inr h)⟩
        have hw := g4 G Φ β a w hsub
        have hne : ∀ j, j ≠ i → ∀ b, (L.setIfInBounds i true).getD j b = L.getD j b := fun j hj b => getD_set_ne b (Ne.symm hj)
        have heq : ∀ b, (L.setIfInBounds i true).getD i b = true := fun b => by rw [Array.getD_eq_getD_getElem?, Array.getElem?_setIfInBounds_self_of_lt (by omega)]; rfl
        have envn : ∀ t e, lk (eL (fun j => (L.setIfInBounds i true).getD j false) 0 vals env) t = some e → lk ((d, (p, v)) :: eL (fun j => L.getD j false) 0 vals env) t = some e := fun t e h => by
          by_cases e1 : t = d
          · subst e1
            have hl1 : lk (eL (fun j => (L.setIfInBounds i true).getD j false) 0 vals env) t = lk (eL (fun j => decide (j < 0 + i + 1)) 0 vals env) t := eL_congr vals 0 env env rfl fun j x hj hx => by
              simp only [Nat.zero_add]
              by_cases hji : j = i
              · subst hji; rw [heq]; simp
              · rw [hne j hji, before j x hj (.inr hx) hji]
                simp only [decide_eq_decide]; omega
            rw [hl1, eL_lt vals 0 i env _ g1, lk_cons, if_pos rfl] at h
            rw [lk_cons, if_pos rfl]; exact h
          · rw [lk_cons, if_neg (Ne.symm e1), ← h]
            refine eL_congr vals 0 env env rfl fun j x hj hx => ?_
            simp only [Nat.zero_add]
            by_cases hji : j = i
            · subst hji
              rw [hj] at g1
              obtain rfl := Option.some.inj g1
              exact absurd hx.symm e1
            · rw [hne j hji]
        have next : ∀ (Φ' : Frz) (β' : Own) (a' : Act) (w' : World) (bl' : List (Nat × Blk)), Φ.le Φ' → Sat G Φ' β' (St.mk n ((d, (p, v)) :: eL (fun j => L.getD j false) 0 vals env) bl') a' w' → (∀ k, lk (bL (fun j => (L.setIfInBounds i true).getD j false) effs bl) k = lk bl' k) → wpAny P .any l.toArray Q' fuel (L.setIfInBounds i true) a' w' := fun Φ' β' a' w' bl' hle' hsat' hbl => by
          refine ih _ Φ' β' a' w' ?_ (by simpa using hs) (fun y' o' hy' hL' j hj => ?_) (fun j hmj hjl => by rw [hne j (by omega)]; exact htl j hmj hjl) (Frz.le_trans hle hle') (hsat'.subB (fun k C h => by rw [← hbl]; exact h) fun t q v' h => ⟨envn t _ h, fun k _ => hbl k⟩)
          · have := un_set (L := fun j => L.getD j true) (L' := fun j => (L.setIfInBounds i true).getD j true) (i := i) h2 (heq true) (fun j hj => hne j hj true) l.length hil
            omega
          · by_cases e1 : j = i
            · subst e1; exact heq false
            · show (L.setIfInBounds i true).getD j false = true
              rw [hne j e1]
              by_cases e2 : y' = i
              · subst e2
                rw [h1] at hy'
                obtain rfl := Option.some.inj hy'
                exact h3 j hj
              · have hL'' : L.getD y' false = true := by rw [← hne y' e2 false]; exact hL'
                exact hcl y' o' hy' hL'' j hj
        unfold wpOp
        have hio : l.toArray[i]? = some o := by simpa using h1
        simp only [hio]
        rcases g5 with ⟨g5, hoff⟩ | ⟨B, hB, rfl, hp, hfresh⟩
        · have hbl : ∀ k, lk (bL (fun j => (L.setIfInBounds i true).getD j false) effs bl) k = lk (bL (fun j => L.getD j false) effs bl) k := fun k => by
            refine Option.ext fun C => ?_
            rw [lk_bL ho, lk_bL ho]
            constructor
            · rintro (⟨e, h5, h6⟩ | h)
              · exact .inl ⟨e, h5, by rw [hne e (hoff _ h5)] at h6; exact h6⟩
              · exact .inr h
            · rintro (⟨e, h5, h6⟩ | h)
              · exact .inl ⟨e, h5, by rw [hne e (hoff _ h5)]; exact h6⟩
              · exact .inr h
          by_cases hpp : p
          · rw [if_pos (hw.2 hpp)]
            refine .inl (Oper.wp_mono' (g5 Φ β a w hsub hpp) (fun a' w' ⟨x, Φ', ha, hvv, hle', heq', hf', hb⟩ => ?_) (fun _ _ _ h => h.elim))
            subst ha
            rw [g2]
            exact next Φ' β _ w' _ hle' (hsat.set hle' heq' hf' hb g3 (fun _ => hvv.sup incl) (fun hx => (hx hpp).elim)) hbl
          · rw [if_neg (fun hx => hpp (hw.1 hx)), g2]
            exact next Φ β _ w _ Φ.le_refl (hsat.set Φ.le_refl (fun _ _ => rfl) hsat.fits (Below.refl _ _) g3 (fun hx => (hpp hx).elim) (fun _ => rfl)) hbl
        · rw [if_pos (hw.2 hp)]
          have hnone : lk (bL (fun j => L.getD j false) effs bl) d = none := by
            cases hc : lk (bL (fun j => L.getD j false) effs bl) d with
            | none => rfl
            | some C =>
              rcases (lk_bL ho).1 hc with ⟨e, h5, h6⟩ | h
              · obtain ⟨rfl, _⟩ := ho.fn _ _ _ _ _ h5 hB
                have h6 : L.getD e false = true := h6
                rw [hLi] at h6; cases h6
              · rw [ho.fr _ _ _ hB] at h; cases h
          refine .inl (Oper.wp_mono' (hfresh _ _ hsame hnone Φ β a w hsat) (fun a' w' ⟨Φ', β', hs', hle'⟩ => ?_) (fun _ _ _ h => h.elim))
          have hs2 : Sat G Φ' β' (St.mk n ((d, (p, .slc d)) :: eL (fun j => L.getD j false) 0 vals env) ((d, B) :: bL (fun j => L.getD j false) effs bl)) a' w' :=
            ⟨hs'.kept, hs'.fits, hs'.old, hs'.siz, hs'.dfr, fun t q v' hl => by
              simp only at hl
              rw [lk_cons] at hl
              by_cases e : d = t
              · subst e
                rw [if_pos rfl] at hl
                cases hl
                have h0 := hs'.env d True (.slc d) (by simp only; rw [lk_cons, if_pos rfl])
                exact ⟨fun _ => h0.1 trivial, fun hx => absurd hp hx⟩
              · rw [if_neg e] at hl
                exact hs'.env t q v' (by simp only; rw [lk_cons, if_neg e]; exact hl), hs'.blk, hs'.vir, hs'.inj⟩
          refine next Φ' β' a' w' _ hle' hs2 fun k => ?_
          refine Option.ext fun C => ?_
          rw [lk_bL ho, lk_cons]
          by_cases e : d = k
          · subst e
            rw [if_pos rfl]
            constructor
            · rintro (⟨e, h5, _⟩ | h)
              · rw [(ho.fn _ _ _ _ _ h5 hB).2]
              · rw [ho.fr _ _ _ hB] at h; cases h
            · intro h
              cases h
              exact .inl ⟨i, hB, heq false⟩
          · rw [if_neg e, lk_bL ho]
            constructor
            · rintro (⟨e', h5, h6⟩ | h)
              · have hne' : e' ≠ i := fun q => by subst q; exact e (ho.ix _ _ _ _ _ hB h5).1
                exact .inl ⟨e', h5, by rw [hne e' hne'] at h6; exact h6⟩
              · exact .inr h
            · rintro (⟨e', h5, h6⟩ | h)
              · have hne' : e' ≠ i := fun q => by subst q; exact e (ho.ix _ _ _ _ _ hB h5).1
                exact .inl ⟨e', h5, by rw [hne e' hne']; exact h6⟩
              · exact .inr h
/-- the same, with a tail -/
theorem W.drawF {id : Nat} {l : List Oper} {env : Env} {Q : Exit → St → Prop} (ms : List Nat) (tss : List (List Nat)) (m : Nat) (sg : List (Nat × Nat)) (effs : Effs) (hm : P.follows .mixedOrders = true) (hok : orderOk2 l ms tss m sg = true) (hml : Nat.ble m l.length = true) (hsg : Nat.beq sg.length m = true)
    (h1 : ndB (effs.map (·.1)) = true) (h2 : ndB (effs.map (·.2.1)) = true) (h3 : effs.all (fun x => (lk bl x.2.1).isNone) = true) (h4 : effs.all (fun x => Nat.blt x.1 m) = true)
    (h : LexE P G l.toArray n bl effs (l.take m) 0 tss ms env fun env' => RG P G l.toArray (l.drop m) (Q .normal) (St.mk n env' (effs.map (·.2) ++ bl))) : W P G (.region id l.toArray true) Q (St.mk n env bl) := fun Φ β a w hs => by
  have hml := Nat.le_of_ble_eq_true hml
  obtain ⟨vals, v1, v2, v3⟩ := LexE.vals h
  have hvl : vals.length = m := by rw [v1]; simp; omega
  refine wp_region_any hm ?_
  have hsz : l.toArray.size = l.length := by simp
  rw [hsz]
  have hall : bL (fun _ => true) effs bl = effs.map (·.2) ++ bl := by rw [bL_eq, List.filter_eq_self.2 fun x _ => rfl]
  refine lexF (orderOk_of2 (Nat.eq_of_beq_eq_true hsg) hok) hml hvl (EffsOk.of h1 h2 h3) (fun i o him ho => ?_) (fun x hx => blt_lt (List.all_eq_true.1 h4 x hx)) (by rw [hall]; exact v2) (Φ0 := Φ) (fun A' Φ' β' a' w' q s le => ⟨A', Φ', β', q, s, le⟩) l.length (Array.replicate l.length false) Φ β a { w with drawn := w.drawn + 1 } ?_ (by simp) (fun y o hy hL => ?_) (fun j _ hj => by simp [hj]) Φ.le_refl ?_
  · have := v3 i o (by rw [List.getElem?_take, if_pos him]; exact ho)
    rwa [Nat.zero_add] at this
  · have : un (fun j => (Array.replicate l.length false).getD j true) l.length = un (fun j => decide (j < 0)) l.length := un_congr _ fun j hj => by simp [hj]
    rw [this, un_lt _ (Nat.zero_le _)]; omega
  · have : (Array.replicate l.length false).getD y false = true := hL
    rw [Array.getD_eq_getD_getElem?, Array.getElem?_replicate] at this
    split at this <;> simp at this
  · have hf : ∀ j, (Array.replicate l.length false).getD j false = false := fun j => by
      rw [Array.getD_eq_getD_getElem?, Array.getElem?_replicate]
      split <;> rfl
    have hnone : (fun j => (Array.replicate l.length false).getD j false) = fun _ => false := funext hf
    rw [hnone, eL_none]
    have hb : bL (fun _ => false) effs bl = bl := by rw [bL_eq, List.filter_eq_nil_iff.2 fun x _ => by simp]; rfl
    rw [hb]
    exact ⟨hs.kept.drew, hs.fits, hs.old, hs.siz, hs.dfr, hs.env, hs.blk, hs.vir, hs.inj⟩
end
end Lf
end
section
set_option linter.unusedVariables false
set_option linter.unusedSimpArgs false
set_option maxHeartbeats 8000000
set_option linter.unusedSectionVars false
namespace Go.Proofs.YtjedkgogjehigaaGreat
open Lf Go
attribute [local irreducible] PureOp EffOp Ev RG W Then InBlock Lf.Fin nth App InitE Pick SubE EvL EvD EvP EvR ResL Lf.Lex SubR SubBR RA RAll EvC FinO FinM ResM ResD FinS val pw digs trimL
theorem addZ_ok (x y : Int) (hx : okZ x) (hy : okZ y) : ACalls Tryz.prog 132 [zB x, zB y] (.tup [zB (fullZ (x + y)), cI (fullE (x + y))]) := by
  have h1 := right_yes hx
  have h2 := right_yes hy
  have l1 := num_len hx
  have l2 := num_len hy
  have hs := mul_sgn x y
  have c1 := sgn_cases x
  have c2 := sgn_cases y
  have mx := mag_nn x
  have my := mag_nn y
  have hx' := hx
  have hy' := hy
  unfold okZ at hx' hy'
  have hz61 : mag (x + y) < pw 61 := by
    have := sgn_cases (x + y)
    have : pw 61 = 1048576 * pw 60 := pw_succ 60
    omega
  have l5 : (digs (mag (x + y))).length ≤ 61 := (digs_len (mag_nn _)).2 hz61
  have h5 := checked_yes (x + y) (by omega)
  by_cases hc : 0 ≤ sgn x * sgn y
  · have h6 := orTwo_ok (sgn x) (sgn y)
    have h3 := add_ok (digs (mag x)) (digs (mag y)) (digs_norm _).dig (digs_norm _).dig (by omega) (by omega)
    rw [val_mag, val_mag] at h3
    have e0 : x + y = (if sgn x = 0 then sgn y else sgn x) * (mag x + mag y) ∧ ((if sgn x = 0 then sgn y else sgn x) = 1 ∨ (if sgn x = 0 then sgn y else sgn x) = -1 ∨ mag x + mag y = 0) := by
      rcases c1 with h | h | h <;> rcases c2 with h' | h' | h' <;> rw [h.1, h'.1] at hc ⊢ <;> rw [h.2.2, h'.2.2] <;> simp at hc ⊢ <;> omega
    have em : mag (x + y) = mag x + mag y := (num_of (by omega) e0.2 e0.1).1
    have h4 := signed_ok (if sgn x = 0 then sgn y else sgn x) (digs (mag x + mag y)) (digs_norm _).dig (by rw [← em]; omega) (x + y) (by rw [val_digs (by omega)]; exact e0.2) (by rw [val_digs (by omega)]; exact e0.1)
    generalize (if sgn x = 0 then sgn y else sgn x) = s at *
    generalize x + y = z at *
    refine ACalls.of_M TYok (qs := [zB (fullZ z), cI (fullE z)]) [.cell 4 38, .tmp 5] 69 Tryz.func132 (by kernel_rfl) rfl rfl rfl fun G => ?_
    refine W.initA (hw := ?_)
    repeat' (first | ((first | apply U_ | (apply Ug_; exact rfl; exact rfl) | (apply Ugq_; exact rfl; exact rfl) | apply Lex.u | (apply Lex.g; exact rfl; exact rfl) | (apply Lex.gq; exact rfl; exact rfl)); (first | exact QX.B TYok | exact QX.Ext TYok | exact QX.Build TYok | exact QCl (h1) | exact QCl (h2) | exact QCd (h3) | exact QCd (h4) | exact QCd (h5) | exact QCl (h6)); exact rfl) | refine SX.Alloc TYok (h := ?_) | refine SX.Store TYok (h := ?_) | refine SX.Box TYok (h := ?_) | refine SC ?_ | (refine W.drawF (id := 4) [0, 1, 0, 4, 15, 31, 0, 64, 0, 256, 1023, 2047, 4095, 8191, 8191, 32767, 65535] [[2], [25], [3], [27], [26, 28], [29], [2], [31], [3], [33], [32, 34], [30, 35], [36], [37], [37]] 15 [(25, 4), (26, 33554432), (27, 8), (28, 134217728), (29, 335544320), (30, 536870912), (31, 4), (32, 2147483648), (33, 8), (34, 8589934592), (35, 21474836480), (36, 35433480192), (37, 68719476736), (38, 137438953472), (39, 137438953472)] [(4, (29, ⟨3, 1, [[.int .i64 (sgn x)], [.int .i64 (sgn y)]]⟩))] mixed (by kernel_rfl) rfl rfl rfl rfl rfl rfl ?_) | (apply LexE.e (k := 0); exact rfl; apply FreshAt.lit TYok; (repeat (first | exact EvR.nil | apply EvR.cons Ev.auto)); exact rfl; exact rfl; exact rfl; exact rfl; exact rfl; exact rfl; exact rfl; exact rfl; exact rfl; exact rfl; exact rfl) | ((first | apply LexE.u | (apply LexE.g; exact rfl; exact rfl) | (apply LexE.gq; exact rfl; exact rfl)); (first | (first | exact QX.B TYok | exact QX.Ext TYok | exact QX.Build TYok | exact QCl (h1) | exact QCl (h2) | exact QCd (h3) | exact QCd (h4) | exact QCd (h5) | exact QCl (h6)) | (apply PureOp.off; intro hp; simp_all; done)); exact rfl; exact rfl; exact rfl) | (refine W.condA (ht := fun hb => ?_) (hf := fun hb => ?_) <;> (try simp at hb) <;> (try (exfalso; omega))))
    exact FinM.ret ResM.auto
  · have h6 := compare_ok (digs (mag x)) (digs (mag y)) (digs_norm _) (digs_norm _) (by omega) (by omega)
    rw [val_mag, val_mag] at h6
    by_cases hlt : mag x < mag y
    · have h3 := sub_ok (digs (mag y)) (digs (mag x)) (digs_norm _).dig (digs_norm _).dig (by omega) (digs_mono mx (by omega)) (by rw [val_mag, val_mag]; omega)
      rw [val_mag, val_mag] at h3
      have e0 : x + y = sgn y * (mag y - mag x) ∧ (sgn y = 1 ∨ sgn y = -1 ∨ mag y - mag x = 0) := by
        rcases c1 with h | h | h <;> rcases c2 with h' | h' | h' <;> rw [h.1, h'.1] at hc <;> rw [h'.1, h.2.2, h'.2.2] <;> simp at hc ⊢ <;> omega
      have em : mag (x + y) = mag y - mag x := (num_of (by omega) e0.2 e0.1).1
      have h4 := signed_ok (sgn y) (digs (mag y - mag x)) (digs_norm _).dig (by rw [← em]; omega) (x + y) (by rw [val_digs (by omega)]; exact e0.2) (by rw [val_digs (by omega)]; exact e0.1)
      rw [show cmpI (mag x) (mag y) = -1 from if_pos hlt] at h6
      generalize x + y = z at *
      refine ACalls.of_M TYok (qs := [zB (fullZ z), cI (fullE z)]) [.cell 4 38, .tmp 5] 69 Tryz.func132 (by kernel_rfl) rfl rfl rfl fun G => ?_
      refine W.initA (hw := ?_)
      repeat' (first | ((first | apply U_ | (apply Ug_; exact rfl; exact rfl) | (apply Ugq_; exact rfl; exact rfl) | apply Lex.u | (apply Lex.g; exact rfl; exact rfl) | (apply Lex.gq; exact rfl; exact rfl)); (first | exact QX.B TYok | exact QX.Ext TYok | exact QX.Build TYok | exact QCl (h1) | exact QCl (h2) | exact QCd (h3) | exact QCd (h4) | exact QCd (h5) | exact QCl (h6)); exact rfl) | refine SX.Alloc TYok (h := ?_) | refine SX.Store TYok (h := ?_) | refine SX.Box TYok (h := ?_) | refine SC ?_ | (apply W.draw2 (id := 6) [0, 1, 0, 4, 0, 16, 60, 127, 255, 511, 511, 2047, 4095] [[3], [47], [3], [49], [2], [51], [50, 52], [48, 53], [54], [55], [55]] 11 [(47, 8), (48, 140737488355328), (49, 8), (50, 562949953421312), (51, 4), (52, 2251799813685248), (53, 5629499534213120), (54, 9288674231451648), (55, 18014398509481984), (56, 36028797018963968), (57, 36028797018963968)] mixed (by kernel_rfl) rfl rfl) | (refine W.condA (ht := fun hb => ?_) (hf := fun hb => ?_) <;> (try simp at hb) <;> (try (exfalso; omega))))
      exact FinM.ret ResM.auto
    · have h3 := sub_ok (digs (mag x)) (digs (mag y)) (digs_norm _).dig (digs_norm _).dig (by omega) (digs_mono my (by omega)) (by rw [val_mag, val_mag]; omega)
      rw [val_mag, val_mag] at h3
      have e0 : x + y = sgn x * (mag x - mag y) ∧ (sgn x = 1 ∨ sgn x = -1 ∨ mag x - mag y = 0) := by
        rcases c1 with h | h | h <;> rcases c2 with h' | h' | h' <;> rw [h.1, h'.1] at hc <;> rw [h.1, h.2.2, h'.2.2] <;> simp at hc ⊢ <;> omega
      have em : mag (x + y) = mag x - mag y := (num_of (by omega) e0.2 e0.1).1
      have h4 := signed_ok (sgn x) (digs (mag x - mag y)) (digs_norm _).dig (by rw [← em]; omega) (x + y) (by rw [val_digs (by omega)]; exact e0.2) (by rw [val_digs (by omega)]; exact e0.1)
      have hcm := cmp_ge (show mag y ≤ mag x by omega)
      generalize cmpI (mag x) (mag y) = cm at *
      generalize x + y = z at *
      refine ACalls.of_M TYok (qs := [zB (fullZ z), cI (fullE z)]) [.cell 4 38, .tmp 5] 69 Tryz.func132 (by kernel_rfl) rfl rfl rfl fun G => ?_
      refine W.initA (hw := ?_)
      repeat' (first | ((first | apply U_ | (apply Ug_; exact rfl; exact rfl) | (apply Ugq_; exact rfl; exact rfl) | apply Lex.u | (apply Lex.g; exact rfl; exact rfl) | (apply Lex.gq; exact rfl; exact rfl)); (first | exact QX.B TYok | exact QX.Ext TYok | exact QX.Build TYok | exact QCl (h1) | exact QCl (h2) | exact QCd (h3) | exact QCd (h4) | exact QCd (h5) | exact QCl (h6)); exact rfl) | refine SX.Alloc TYok (h := ?_) | refine SX.Store TYok (h := ?_) | refine SX.Box TYok (h := ?_) | refine SC ?_ | (apply W.draw2 (id := 7) [0, 1, 0, 4, 0, 16, 60, 127, 255, 511, 511, 2047, 4095] [[2], [58], [2], [60], [3], [62], [61, 63], [59, 64], [65], [66], [66]] 11 [(58, 4), (59, 288230376151711744), (60, 4), (61, 1152921504606846976), (62, 8), (63, 4611686018427387904), (64, 11529215046068469760), (65, 19023204826012975104), (66, 36893488147419103232), (67, 73786976294838206464), (68, 73786976294838206464)] mixed (by kernel_rfl) rfl rfl) | (refine W.condA (ht := fun hb => ?_) (hf := fun hb => ?_) <;> (try simp at hb) <;> (try (exfalso; omega))))
      exact FinM.ret ResM.auto
end Go.Proofs.YtjedkgogjehigaaGreat
end
section
set_option linter.unusedVariables false
set_option linter.unusedSimpArgs false
set_option linter.unusedSectionVars false
namespace Lf
section
open Go Go.RowKit
section
variable {P : Program} {G : Ghost} {A : St} {Φ : Frz} {β : Own} {a : Act} {w : World} {T : TT} (hT : TOK P T)
include hT
theorem lit_run (hs : Sat G Φ β A a w) {t e n : Nat} {ps : List (Nat × Operand)} {rs : List (List Cell)} {ti te : TI} (ht : T t = some ti) (hk : ti.kind = .slice e) (he : T e = some te)
    (hx : EvR A ps 0 rs) (hlen : rs.length = n) (hrs : ∀ r ∈ rs, r.length = te.sz) (hb : n * te.sz ≤ 16777216) : ∃ out : Array Value, (Instr.buildSlice t n (ps.toArray.map fun (i, x) => (i, a.eval x))).run P w = .ok (.slice (some ⟨w.heap.size, 0, none⟩) n n) (w.alloc (.cells out e)) ∧ out.size = n * te.sz ∧
      ∀ (i j : Nat) (r : List Cell) (c : Cell), rs[i]? = some r → r[j]? = some c → ∃ v, out[i * te.sz + j]? = some v ∧ Rel Φ v c  := by
  have hu : P.underlying t = some (.slice e) := by have := (hT _ _ ht).kind; rw [hk] at this; exact this
  obtain ⟨i, hi, hisz, hib, z, hzz, hrel⟩ := (hT e te he).info
  have e2 : (ps.toArray.map fun (x : Nat × Operand) => (x.1, a.eval x.2)).toList = ps.map fun (i, x) => (i, a.eval x) := by simp
  have hz : (zeroValue e).run P w = .ok z w := by simp [zeroValue, typeInfo, hi, hzz]
  have hb' : ¬ (2 ^ 24 < n * te.sz) := by omega
  have main : ∀ (Z : Array Value), Z.size = n * te.sz → (∀ out, Instr.fill (fun i => some (i * te.sz, te.sz)) Z (ps.map fun (i, x) => (i, a.eval x)) = some out → (Instr.buildSlice t n (ps.toArray.map fun (i, x) => (i, a.eval x))).run P w = .ok (.slice (some ⟨w.heap.size, 0, none⟩) n n) (w.alloc (.cells out e))) →
      ∃ out : Array Value, (Instr.buildSlice t n (ps.toArray.map fun (i, x) => (i, a.eval x))).run P w = .ok (.slice (some ⟨w.heap.size, 0, none⟩) n n) (w.alloc (.cells out e)) ∧ out.size = n * te.sz ∧
        ∀ (i j : Nat) (r : List Cell) (c : Cell), rs[i]? = some r → r[j]? = some c → ∃ v, out[i * te.sz + j]? = some v ∧ Rel Φ v c := fun Z hZ hrun => by
    obtain ⟨out, k1, k2, _, k4⟩ := fillR_run hs (sz := te.sz) hx hrs (cells := Z) (by rw [hZ, hlen, Nat.zero_add])
    exact ⟨out, hrun out k1, by rw [k2, hZ], fun i j r c hi hj => by have := k4 i j r c hi hj; rwa [Nat.zero_add] at this⟩
  by_cases h0 : n * te.sz = 0
  · refine main ((Array.range (n * te.sz)).map ((#[] : Array Value)[· % (#[] : Array Value).size]!)) (by rw [Array.size_map, Array.size_range]) fun out k1 => ?_
    rw [h0] at k1
    simp only [Instr.buildSlice, Sem.run_bind, run_underlying hu, Result.andThen_ok, run_sizeOf hT he]
    rw [if_neg hb']
    simp only [h0, if_true, Sem.run_pure, Sem.run_bind, Result.andThen_ok]
    rw [e2, k1]
    rfl
  · refine main ((Array.range (n * te.sz)).map (z.cells[· % z.cells.size]!)) (by rw [Array.size_map, Array.size_range]) fun out k1 => ?_
    simp only [Instr.buildSlice, Sem.run_bind, run_underlying hu, Result.andThen_ok, run_sizeOf hT he]
    rw [if_neg hb']
    simp only [h0, if_false, Sem.run_pure, Sem.run_bind, Result.andThen_ok, hz]
    rw [e2, k1]
    rfl
theorem P_litD {o : Oper} {p : Prop} {t e n : Nat} {ps : List (Nat × Operand)} {rs : List (List Cell)} {ti te : TI} (ho : o.op = .buildSlice t n ps.toArray) (ht : T t = some ti) (hk : ti.kind = .slice e) (he : T e = some te)
    (hx : EvR A ps 0 rs) (hlen : rs.length = n) (hrs : ∀ r ∈ rs, r.length = te.sz) (hb : n * te.sz ≤ 16777216) : PureOp P G A o p (.pv (.one (.sl rs))) := fun Φ β a w hs hp => by
  obtain ⟨out, h1, h2, h3⟩ := lit_run hT hs ht hk he hx hlen hrs hb
  have hx1 : (execOp a.eval o).run P w = .ok (.value (.slice (some ⟨w.heap.size, 0, none⟩) n n)) (w.alloc (.cells out e)) := by
    have e3 : execOp a.eval o = (do pure (.value (← Instr.buildSlice t n (ps.toArray.map fun (i, x) => (i, a.eval x))))) := by simp only [execOp, ho]
    rw [e3, Sem.run_bind, h1]; rfl
  unfold Oper.wp
  rw [hx1]
  have hno : ∀ b c, Φ b = some c → b < w.heap.size := fun b c h => by
    obtain ⟨E, fz, hw⟩ := hs.fits b c h
    exact (Array.getElem?_eq_some_iff.1 hw).1
  have hold : ∀ b, b < w.heap.size → (w.alloc (.cells out e)).heap[b]? = w.heap[b]? := fun b hb => heap_alloc_old w _ hb
  refine ⟨_, fun c => if c = w.heap.size then some out else Φ c, rfl, ?_, fun b c h => ?_, fun b hb => ?_, fun b c h => ?_, ?_⟩
  · show Rel _ _ _
    refine .sl w.heap.size 0 n n te.sz rs (fun i j => (out[i * te.sz + j]?).getD undef) hlen (Nat.le_refl _) hrs (fun i j r c hi hj => ?_) (fun i j r c hi hj => ?_)
    · obtain ⟨v, q1, q2⟩ := h3 i j r c hi hj
      simp [q1]
    · obtain ⟨v, q1, q2⟩ := h3 i j r c hi hj
      rw [q1]
      refine q2.mono fun b c h => ?_
      have := hno b c h
      show (if b = w.heap.size then some out else Φ b) = some c
      rw [if_neg (by omega)]; exact h
  · have := hno b c h
    show (if b = w.heap.size then some out else Φ b) = some c
    rw [if_neg (by omega)]; exact h
  · show (if b = w.heap.size then some out else Φ b) = Φ b
    rw [if_neg (by omega)]
  · simp only at h
    split at h
    · rename_i e1; subst e1; cases h
      exact ⟨e, (0, 0), heap_alloc_new w _⟩
    · obtain ⟨E, fz, hw⟩ := hs.fits b c h
      exact ⟨E, fz, by rw [hold b (hno b c h)]; exact hw⟩
  · exact Below.alloc (Below.refl _ _) (Nat.le_refl _) _
end
section
variable {P : Program} {G : Ghost} {n0 : Nat} {env : List (Nat × (Prop × AV))} {bl : List (Nat × Blk)} {p : Prop} {dst : Option Nat} {ty : TypeId} {pos : String} {after : Array Edge} {gd : Option (Nat × Bool)} {T : TT} (hT : TOK P T)
include hT
theorem Q_litD {t e n : Nat} {ps : List (Nat × Operand)} {rs : List (List Cell)} {ti te : TI} (hx : EvR (St.mk n0 env bl) ps 0 rs) (ht : T t = some ti) (hk : ti.kind = .slice e) (he : T e = some te) (hlen : rs.length = n) (hrs : rs.all (fun r => Nat.beq r.length te.sz) = true)
    (hb : Nat.ble (n * te.sz) 16777216 = true) : PureOp P G (St.mk n0 env bl) ⟨dst, .buildSlice t n ps.toArray, ty, pos, after, gd⟩ p (.pv (.one (.sl rs))) :=
  P_litD hT rfl ht hk he hx hlen (fun r hr => Nat.eq_of_beq_eq_true (List.all_eq_true.1 hrs r hr)) (Nat.le_of_ble_eq_true hb)
end
end
section
open Go Go.RowKit
theorem wrap_u64' (n : Int) : IntKind.u64.wrap n = n % 18446744073709551616 := by simp [IntKind.wrap, IntKind.bits, IntKind.signed]
theorem wraps_u64' (n : Int) (h₀ : 0 ≤ n) (h₁ : n < 2 ^ 64) : IntKind.u64.wrap n = n := by rw [wrap_u64']; omega
theorem u64_and20 {n : Int} (h0 : 0 ≤ n) (h1 : n ≤ 18446744073709551615) : bits .and .u64 n 1048575 = n % 1048576 :=
  bits_mask .u64 64 (by decide) wraps_u64' 20 (by decide) n h0 (by omega)
theorem u64_orHi (i : Nat) {y x : Int} (hy0 : 0 ≤ y) (hy : y < 2 ^ i) (hx0 : 0 ≤ x) (hx : x % 2 ^ i = 0) (hx1 : x < 2 ^ 64) (hy1 : y < 2 ^ 64) : bits .or .u64 y x = y + x := by
  have h := bits_join .u64 64 (by decide) wraps_u64' i x y hx0 hx hx1 hy0 hy hy1
  obtain ⟨a, rfl⟩ := Int.eq_ofNat_of_zero_le hx0
  obtain ⟨b, rfl⟩ := Int.eq_ofNat_of_zero_le hy0
  have ha : a < 2 ^ 64 := by exact_mod_cast hx1
  have hb : b < 2 ^ 64 := by exact_mod_cast hy1
  rw [(bits_nat .u64 64 (by decide) wraps_u64' a b ha hb).2] at h
  rw [(bits_nat .u64 64 (by decide) wraps_u64' b a hb ha).2, Nat.or_comm, h]
  omega
theorem pw_two : ∀ i : Nat, pw i = 2 ^ (20 * i)
  | 0 => rfl
  | i + 1 => by rw [pw, pw_two i, show 20 * (i + 1) = 20 * i + 20 by omega, Int.pow_add]; omega
/-- d digits of 20 bits further up -/
theorem u64_or20 {i : Nat} {u d : Int} (hi : i ≤ 3) (hu : 0 ≤ u ∧ u < pw i) (hd : 0 ≤ d ∧ d < 1048576) (h3 : i = 3 → d ≤ 8) : bits .or .u64 u (IntKind.u64.wrap (d * 2 ^ min (20 * (i : Int)).toNat IntKind.u64.bits)) = u + pw i * d := by
  have e1 : min (20 * (i : Int)).toNat IntKind.u64.bits = 20 * i := by
    show min (20 * (i : Int)).toNat 64 = 20 * i
    omega
  have hc : i = 0 ∨ i = 1 ∨ i = 2 ∨ i = 3 := by omega
  have hb : pw i * d < 2 ^ 64 ∧ u < 2 ^ 64 := by
    rcases hc with rfl | rfl | rfl | rfl <;> simp only [pw] at hu ⊢ <;> omega
  have hp := pw_pos i
  have hm : 0 ≤ pw i * d := Int.mul_nonneg (by omega) hd.1
  rw [e1, ← pw_two, Int.mul_comm d, wraps_u64' _ hm hb.1]
  exact u64_orHi (20 * i) hu.1 (by rw [← pw_two]; exact hu.2) hm (by rw [← pw_two]; exact Int.mul_emod_right _ _) hb.1 hb.2
section
variable {P : Program} {G : Ghost} {n0 : Nat} {env : List (Nat × (Prop × AV))} {bl : List (Nat × Blk)} {p : Prop} {dst : Option Nat} {ty : TypeId} {pos : String} {after : Array Edge} {gd : Option (Nat × Bool)}
theorem Q_mask20u {xt yt : Nat} {x : Operand} {m : Int} (hx : Ev (St.mk n0 env bl) p x (.pv (.one (.int .u64 m)))) (hb : 0 ≤ m ∧ m ≤ 18446744073709551615) :
    PureOp P G (St.mk n0 env bl) ⟨dst, .binOp .and xt x (.const (.int .u64 1048575)) yt, ty, pos, after, gd⟩ p (.pv (.one (.int .u64 (m % 1048576)))) := P_bin (n := 1048575) rfl hx ⟨True, rfl, fun _ => trivial⟩ (by simp only [binI]; rw [u64_and20 hb.1 hb.2])
theorem Q_shr20u {xt yt : Nat} {x : Operand} {m : Int} (hx : Ev (St.mk n0 env bl) p x (.pv (.one (.int .u64 m)))) :
    PureOp P G (St.mk n0 env bl) ⟨dst, .binOp .shr xt x (.const (.int .u64 20)) yt, ty, pos, after, gd⟩ p (.pv (.one (.int .u64 (m / 1048576)))) := by
  have h := P_shr (P := P) (G := G) (o := ⟨dst, .binOp .shr xt x (.const (.int .u64 20)) yt, ty, pos, after, gd⟩) (n := 20) (yk := .u64) rfl hx ⟨True, rfl, fun _ => trivial⟩ (fun _ => by omega)
  rw [show m.fdiv (2 ^ min (20 : Int).toNat IntKind.u64.bits) = m / 1048576 from by
    show m.fdiv 1048576 = _
    exact Int.fdiv_eq_ediv_of_nonneg _ (by omega)] at h
  exact h
end
end
section
open Go Go.RowKit
section
variable {P : Program} {G : Ghost} {A : St} {T : TT} (hT : TOK P T)
include hT
end
section
variable {P : Program} {G : Ghost} {n0 : Nat} {env : List (Nat × (Prop × AV))} {bl : List (Nat × Blk)} {p : Prop} {dst : Option Nat} {ty : TypeId} {pos : String} {after : Array Edge} {gd : Option (Nat × Bool)} {T : TT} (hT : TOK P T)
include hT
end
end
end Lf
end
