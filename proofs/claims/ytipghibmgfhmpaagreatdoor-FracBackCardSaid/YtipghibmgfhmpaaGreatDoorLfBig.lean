/-
  Big integers: what a sign and digits stand for; decimal texts; long division: the digit that is guessed from the leading digits.
-/
import Derived.Test.YtipghibmgfhmpaaGreatDoorLfNum
import Derived.Lib.ItoaNum
import Derived.Lib.Join
import Derived.Lib.Repeat
import Derived.Lib.SlTrimSet
set_option linter.unusedVariables false
set_option linter.unusedSimpArgs false
namespace Lf
section
theorem split_at {l : List Int} {j : Nat} (h : j < l.length) : val l = val (l.take j) + pw j * (nth l j + 1048576 * val (l.drop (j + 1))) := by
  rw [val_split l (i := j) (by omega), val_drop h]
theorem low_at {l : List Int} (h : Dig l) {j : Nat} (hj : j ≤ l.length) : 0 ≤ val (l.take j) ∧ val (l.take j) < pw j := by
  have h1 := val_lo (h.take j)
  have h2 := val_hi (h.take j)
  rw [List.length_take, Nat.min_eq_left hj] at h2
  exact ⟨h1, h2⟩
theorem nth_dropK {l : List Int} {k j : Nat} : nth (l.drop k) j = nth l (k + j) := by simp [nth, List.getD]

/-- what is known of a window of n + 1 digits, and of n digits that divide it -/
structure Win (W V p top u2 v1 v2 : Int) : Prop where
  p0 : 0 < p
  w : ∃ l, 0 ≤ l ∧ l < p ∧ W = l + p * (u2 + 1048576 * top)
  v : ∃ l, 0 ≤ l ∧ l < p ∧ V = l + p * (v2 + 1048576 * v1)
  u2 : 0 ≤ u2 ∧ u2 < 1048576
  v2 : 0 ≤ v2 ∧ v2 < 1048576
  v1 : 0 < v1 ∧ v1 < 1048576
  t : 0 ≤ top
theorem Win.low {W V p top u2 v1 v2 q : Int} (h : Win W V p top u2 v1 v2) (hq : 0 ≤ q) (hw : q * V ≤ W) : q * (v2 + 1048576 * v1) ≤ u2 + 1048576 * top := by
  obtain ⟨l, h1, h2, h3⟩ := h.w
  obtain ⟨m, h4, h5, h6⟩ := h.v
  have hp := h.p0
  have e : q * V = q * m + p * (q * (v2 + 1048576 * v1)) := by rw [h6]; grind
  have h7 := Int.mul_nonneg hq h4
  have h8 : p * (q * (v2 + 1048576 * v1)) < p * (u2 + 1048576 * top + 1) := by
    rw [Int.mul_add p _ 1]; omega
  have := Int.lt_of_mul_lt_mul_left h8 (by omega)
  omega
theorem Win.lower {W V p top u2 v1 v2 q : Int} (h : Win W V p top u2 v1 v2) (hq : 0 ≤ q) (hw : q * V ≤ W) : q * v1 ≤ top := by
  have h1 := h.low hq hw
  have h2 := Int.mul_nonneg hq h.v2.1
  have h3 := h.u2
  have e : q * (v2 + 1048576 * v1) = q * v2 + 1048576 * (q * v1) := by grind
  rw [e] at h1
  omega
theorem Win.dec {W V p top u2 v1 v2 q g r : Int} (h : Win W V p top u2 v1 v2) (hq : 0 ≤ q) (hw : q * V ≤ W) (hg : g * v1 + r = top) (ht : g * v2 > r * 1048576 + u2) : q ≤ g - 1 := by
  have h1 := h.low hq hw
  have h2 : 0 ≤ v2 + 1048576 * v1 := by have := h.v2; have := h.v1; omega
  by_cases hc : q ≤ g - 1
  · exact hc
  · have h3 : g * (v2 + 1048576 * v1) ≤ q * (v2 + 1048576 * v1) := Int.mul_le_mul_of_nonneg_right (by omega) h2
    have e : g * (v2 + 1048576 * v1) = g * v2 + 1048576 * (g * v1) := by grind
    rw [e] at h3
    omega
theorem Win.upper {W V p top u2 v1 v2 q g r : Int} (h : Win W V p top u2 v1 v2) (hq : 0 ≤ q) (hw : W < q * V + V) (hg : g * v1 + r = top) (hb : g < 1048576) (ht : g * v2 ≤ r * 1048576 + u2) : g ≤ q + 1 := by
  obtain ⟨l, h1, h2, h3⟩ := h.w
  obtain ⟨m, h4, h5, h6⟩ := h.v
  have hp := h.p0
  by_cases hc : g ≤ q + 1
  · exact hc
  · have hv0 : 0 ≤ V := by
      have := Int.mul_nonneg (show 0 ≤ p by omega) (show 0 ≤ v2 + 1048576 * v1 by have := h.v2; have := h.v1; omega)
      omega
    have e1 : q * V + V ≤ (g - 1) * V := by
      have : (q + 1) * V ≤ (g - 1) * V := Int.mul_le_mul_of_nonneg_right (by omega) hv0
      have e : (q + 1) * V = q * V + V := by grind
      omega
    have e2 : (g - 1) * V ≤ (g - 1) * (p * (v2 + 1048576 * v1 + 1)) := Int.mul_le_mul_of_nonneg_left (by rw [h6, Int.mul_add p _ 1]; omega) (by omega)
    have e3 : g * (v2 + 1048576 * v1) ≤ u2 + 1048576 * top := by
      have e : g * (v2 + 1048576 * v1) = g * v2 + 1048576 * (g * v1) := by grind
      rw [e]; omega
    have e4 : p * (g * (v2 + 1048576 * v1)) ≤ p * (u2 + 1048576 * top) := Int.mul_le_mul_of_nonneg_left e3 (by omega)
    have e5 : p * (g * (v2 + 1048576 * v1)) < p * ((g - 1) * (v2 + 1048576 * v1 + 1)) := by
      have e : (g - 1) * (p * (v2 + 1048576 * v1 + 1)) = p * ((g - 1) * (v2 + 1048576 * v1 + 1)) := by grind
      omega
    have e6 := Int.lt_of_mul_lt_mul_left e5 (by omega)
    have e7 : (g - 1) * (v2 + 1048576 * v1 + 1) = g * (v2 + 1048576 * v1) - (v2 + 1048576 * v1) + g - 1 := by grind
    have := h.v1
    have := h.v2
    omega
/-- long division, with i digits of the quotient still to come -/
structure DivI (A V : Int) (n m : Nat) (U Q : List Int) (i : Nat) : Prop where
  ulen : U.length = m + n
  udig : Dig U
  qlen : Q.length = m
  qdig : Dig Q
  small : val (U.drop i) < V
  eq : A = val U + V * (pw i * val (Q.drop i))
theorem DivI.zero {A V : Int} {n m : Nat} {U Q : List Int} {k : Nat} (h : DivI A V n m U Q (k + 1)) (hk : k < m) (hV : V < pw n) : val (U.drop (k + n + 1)) = 0 := by
  have h1 := h.small
  have h2 := h.ulen
  have e := val_split (U.drop (k + 1)) (i := n) (by simp; omega)
  rw [List.drop_drop, show k + 1 + n = k + n + 1 by omega] at e
  have h3 := val_lo ((h.udig.drop (k + 1)).take n)
  have h4 := val_lo (h.udig.drop (k + n + 1))
  by_cases hz : val (U.drop (k + n + 1)) = 0
  · exact hz
  · have : pw n * 1 ≤ pw n * val (U.drop (k + n + 1)) := Int.mul_le_mul_of_nonneg_left (by omega) (by have := pw_pos n; omega)
    omega
theorem DivI.window {A V : Int} {n m : Nat} {U Q : List Int} {k : Nat} (h : DivI A V n m U Q (k + 1)) (hk : k < m) (hV : V < pw n) : val ((U.drop k).take (n + 1)) = val (U.drop k) := by
  have h2 := h.ulen
  have e := val_split (U.drop k) (i := n + 1) (by simp; omega)
  rw [List.drop_drop, show k + (n + 1) = k + n + 1 by omega, h.zero hk hV] at e
  rw [e]; simp
theorem DivI.win {A : Int} {n m : Nat} {U Q v : List Int} {k : Nat} (h : DivI A (val v) n m U Q (k + 1)) (hk : k < m) (hv : Norm v) (hn : v.length = n) (h2 : 2 ≤ n) :
    Win (val (U.drop k)) (val v) (pw (n - 2)) (nth U (k + n) * 1048576 + nth U (k + n - 1)) (nth U (k + n - 2)) (nth v (n - 1)) (nth v (n - 2)) := by
  have hU := h.ulen
  have hVn : val v < pw n := by rw [← hn]; exact val_hi hv.dig
  have hz := h.zero hk hVn
  have d0 := h.udig.nth (show k + n < U.length by omega)
  have d1 := h.udig.nth (show k + n - 1 < U.length by omega)
  have d2 := h.udig.nth (show k + n - 2 < U.length by omega)
  have t1 := topD_nth v (by rintro rfl; simp at hn; omega)
  have t2 := hv.top
  rw [t1, hn] at t2
  have w1 := hv.dig.nth (show n - 1 < v.length by omega)
  have w2 := hv.dig.nth (show n - 2 < v.length by omega)
  refine ⟨pw_pos _, ⟨val ((U.drop k).take (n - 2)), (low_at (h.udig.drop k) (by simp; omega)).1, (low_at (h.udig.drop k) (by simp; omega)).2, ?_⟩, ⟨val (v.take (n - 2)), (low_at hv.dig (by omega)).1, (low_at hv.dig (by omega)).2, ?_⟩, d2, w2, by omega, by omega⟩
  · rw [split_at (l := U.drop k) (j := n - 2) (by simp; omega), List.drop_drop, nth_dropK, show k + (n - 2) = k + n - 2 by omega, show k + (n - 2 + 1) = k + n - 1 by omega,
      val_drop (l := U) (i := k + n - 1) (by omega), show k + n - 1 + 1 = k + n by omega, val_drop (l := U) (i := k + n) (by omega), hz]
    congr 3; omega
  · rw [split_at (l := v) (j := n - 2) (by omega), show n - 2 + 1 = n - 1 by omega, val_drop (l := v) (i := n - 1) (by omega), show n - 1 + 1 = n by omega, List.drop_of_length_le (by omega)]
    simp [val]
theorem DivI.step {A V : Int} {n m : Nat} {U Q : List Int} {k : Nat} (h : DivI A V n m U Q (k + 1)) (hk : k < m) (hV : V < pw n) (hV0 : 0 < V) {q : Int} (hq : 0 ≤ q ∧ q < 1048576) (hw : q * V ≤ val (U.drop k)) (hw2 : val (U.drop k) < q * V + V) :
    DivI A V n m (U.take k ++ digL (n + 1) (val (U.drop k) - q * V) ++ U.drop (k + n + 1)) (Q.set k q) k := by
  have hU := h.ulen
  have hQ := h.qlen
  have hz := h.zero hk hV
  have hp : pw n < pw (n + 1) := pw_lt (Nat.lt_succ_self n)
  obtain ⟨c1, c2, c3⟩ := digL_ok (n + 1) (val (U.drop k) - q * V) (by omega)
  have e1 : (U.take k ++ digL (n + 1) (val (U.drop k) - q * V) ++ U.drop (k + n + 1)).drop k = digL (n + 1) (val (U.drop k) - q * V) ++ U.drop (k + n + 1) := by
    rw [List.append_assoc, List.drop_append_of_le_length (by simp; omega), List.drop_of_length_le (by simp; omega), List.nil_append]
  refine ⟨by simp [c2]; omega, (((h.udig.take k).app c1).app (h.udig.drop _)), by simp [hQ], h.qdig.set hq, ?_, ?_⟩
  · rw [e1, val_app, c3, hz]; omega
  · have h5 := h.eq
    have e2 : val (U.take k ++ digL (n + 1) (val (U.drop k) - q * V) ++ U.drop (k + n + 1)) = val (U.take k) + pw k * (val (U.drop k) - q * V) := by
      rw [val_app, hz, Int.mul_zero, Int.add_zero, val_app, c3, List.length_take, Nat.min_eq_left (by omega)]
    have e3 := val_split U (i := k) (by omega)
    rw [e2, val_drop (l := Q.set k q) (i := k) (by simp; omega), nth_set_self (by omega), List.drop_set_of_lt (by omega)]
    rw [h5, e3, pw]
    grind
end
section
open Go
theorem pw_succ (n : Nat) : pw (n + 1) = 1048576 * pw n := rfl
def sgn (x : Int) : Int := if x < 0 then -1 else if x = 0 then 0 else 1
def mag (x : Int) : Int := if x < 0 then -x else x
abbrev aB (s : Int) (l : List Int) : PV := .agg [.int .i64 s, .sl (l.map encI)]
abbrev zB (x : Int) : PV := aB (sgn x) (digs (mag x))
def okZ (x : Int) : Prop := mag x < pw 60
theorem zeroSub : PSub (.agg [.int .i64 0, .slnil]) (.agg [.int .i64 0, .sl []]) := ⟨.refl _, .nil, trivial⟩
theorem zeroSubZ : PSub (.agg [.int .i64 0, .slnil]) (zB 0) := zeroSub
theorem mag_nn (x : Int) : 0 ≤ mag x := by unfold mag; split <;> omega
theorem sgn_mag (x : Int) : sgn x * mag x = x := by
  unfold sgn mag
  split
  · omega
  · split <;> omega
theorem sgn_cases (x : Int) : (sgn x = -1 ∧ x < 0 ∧ mag x = -x) ∨ (sgn x = 0 ∧ x = 0 ∧ mag x = 0) ∨ (sgn x = 1 ∧ 0 < x ∧ mag x = x) := by
  unfold sgn mag
  by_cases h : x < 0
  · rw [if_pos h, if_pos h]; omega
  · rw [if_neg h, if_neg h]
    by_cases h2 : x = 0
    · rw [if_pos h2]; omega
    · rw [if_neg h2]; omega
theorem val_mag (x : Int) : val (digs (mag x)) = mag x := val_digs (mag_nn x)
/-- a sign and a size -/
theorem num_of {s v z : Int} (hv : 0 ≤ v) (hs : s = 1 ∨ s = -1 ∨ v = 0) (hz : z = s * v) : mag z = v ∧ sgn z = if v = 0 then 0 else s := by
  rcases hs with rfl | rfl | rfl
  · have := sgn_cases z
    by_cases h : v = 0
    · rw [if_pos h]; omega
    · rw [if_neg h]; omega
  · have := sgn_cases z
    by_cases h : v = 0
    · rw [if_pos h]; omega
    · rw [if_neg h]; omega
  · rw [Int.mul_zero] at hz
    subst hz
    exact ⟨rfl, rfl⟩
def digB (d : Int) : Bool := decide (0 ≤ d) && decide (d < 1048576)
def rightB (s : Int) (l : List Int) : Bool := l.all digB && if l.length = 0 then decide (s = 0) else ((decide (s = 1) || decide (s = -1)) && decide (l.length ≤ 60) && !decide (nth l (l.length - 1) = 0))
theorem all_dig {l : List Int} : l.all digB = true ↔ Dig l := by
  rw [List.all_eq_true]
  constructor
  · intro h d hd
    have := h d hd
    simp only [digB, Bool.and_eq_true, decide_eq_true_iff] at this; exact this
  · intro h d hd
    have := h d hd
    simp only [digB, Bool.and_eq_true, decide_eq_true_iff]; exact this
theorem right_num {s : Int} {l : List Int} (h : rightB s l = true) : ∃ x, okZ x ∧ s = sgn x ∧ l = digs (mag x) := by
  rw [rightB, Bool.and_eq_true, all_dig] at h
  obtain ⟨hd, h⟩ := h
  by_cases hl : l.length = 0
  · rw [if_pos hl, decide_eq_true_iff] at h
    obtain rfl := List.length_eq_zero_iff.1 hl
    subst h
    exact ⟨0, pw_pos 60, rfl, rfl⟩
  · rw [if_neg hl] at h
    simp only [Bool.and_eq_true, Bool.or_eq_true, decide_eq_true_iff, Bool.not_eq_true', decide_eq_false_iff_not] at h
    obtain ⟨⟨h1, h2⟩, h3⟩ := h
    have hn : Norm l := ⟨hd, by rw [topD_nth l (fun e => hl (by rw [e]; rfl))]; exact h3⟩
    have hp := hn.pos (fun e => hl (by rw [e]; rfl))
    obtain ⟨e1, e2⟩ := num_of (s := s) (v := val l) (by omega) (by omega) rfl
    refine ⟨s * val l, ?_, ?_, ?_⟩
    · have := val_hi hd
      have := pw_mono h2
      unfold okZ; omega
    · rw [e2, if_neg (by omega)]
    · rw [e1]; exact hn.digs
theorem num_len {x : Int} (h : okZ x) : (digs (mag x)).length ≤ 60 := (digs_len (mag_nn x)).2 h
theorem num_right {x : Int} (h : okZ x) : rightB (sgn x) (digs (mag x)) = true := by
  have hn := digs_norm (mag x)
  have hl := num_len h
  rw [rightB, Bool.and_eq_true, all_dig]
  refine ⟨hn.dig, ?_⟩
  have hc := sgn_cases x
  by_cases h0 : (digs (mag x)).length = 0
  · have := (digs_nil (mag_nn x)).1 (List.length_eq_zero_iff.1 h0)
    rw [if_pos h0, decide_eq_true_iff]; omega
  · have h1 : mag x ≠ 0 := fun e => h0 (by rw [e]; rfl)
    have ht := hn.top
    rw [topD_nth _ (fun e => h0 (by rw [e]; rfl))] at ht
    rw [if_neg h0]
    simp only [Bool.and_eq_true, Bool.or_eq_true, decide_eq_true_iff, Bool.not_eq_true', decide_eq_false_iff_not]
    exact ⟨⟨by omega, hl⟩, ht⟩
theorem num_inj {x y : Int} (hs : sgn x = sgn y) (hd : digs (mag x) = digs (mag y)) : x = y := by
  have := digs_inj (mag_nn x) (mag_nn y) hd
  rw [← sgn_mag x, ← sgn_mag y, hs, this]
theorem okZ.lt {x : Int} (h : okZ x) : -pw 60 < x ∧ x < pw 60 := by
  have := sgn_cases x
  unfold okZ at h; omega
theorem okZ.of {x : Int} (h : -pw 60 < x ∧ x < pw 60) : okZ x := by
  have := sgn_cases x
  unfold okZ; omega
theorem okZ.zero : okZ 0 := pw_pos 60
theorem digs_mono {u v : Int} (hu : 0 ≤ u) (h : u ≤ v) : (digs u).length ≤ (digs v).length := by
  have h1 := val_hi (digs_norm v).dig
  rw [val_digs (by omega)] at h1
  exact (digs_len hu).2 (by omega)
/-- the quotient, rounded down, and what is left -/
def quoZ (x y : Int) : Int := if 0 < y then x / y else -x / -y
def remZ (x y : Int) : Int := x - y * quoZ x y
theorem quo_uniq {x y q r : Int} (hy : y ≠ 0) (h : x = y * q + r) (h1 : 0 < y → 0 ≤ r ∧ r < y) (h2 : y < 0 → y < r ∧ r ≤ 0) : q = quoZ x y ∧ r = remZ x y := by
  have e : q = quoZ x y := by
    unfold quoZ
    by_cases hp : 0 < y
    · rw [if_pos hp]
      obtain ⟨a, b⟩ := h1 hp
      rw [h, Int.mul_add_ediv_left _ _ hy, Int.ediv_eq_zero_of_lt a b]; omega
    · rw [if_neg hp]
      obtain ⟨a, b⟩ := h2 (by omega)
      rw [show -x = -y * q + -r by rw [h, Int.neg_mul]; omega, Int.mul_add_ediv_left _ _ (by omega), Int.ediv_eq_zero_of_lt (by omega) (by omega)]; omega
  exact ⟨e, by unfold remZ; rw [← e]; omega⟩
theorem rem_rng {x y : Int} (hy : y ≠ 0) : (0 < y → 0 ≤ remZ x y ∧ remZ x y < y) ∧ (y < 0 → y < remZ x y ∧ remZ x y ≤ 0) := by
  constructor
  · intro hp
    have e1 := Int.emod_add_mul_ediv x y
    have e2 := Int.emod_nonneg x hy
    have e3 := Int.emod_lt_of_pos x hp
    rw [remZ, quoZ, if_pos hp]; omega
  · intro hn
    have e1 := Int.emod_add_mul_ediv (-x) (-y)
    have e2 := Int.emod_nonneg (-x) (show -y ≠ 0 by omega)
    have e3 := Int.emod_lt_of_pos (-x) (show 0 < -y by omega)
    rw [Int.neg_mul] at e1
    rw [remZ, quoZ, if_neg (by omega)]; omega
theorem quo_rem (x y : Int) : x = y * quoZ x y + remZ x y := by unfold remZ; omega
end
section
open Go Go.Lib
theorem zB0 : zB 0 = aB 0 [] := rfl
abbrev chd (k : Nat) : UInt8 := UInt8.ofNat (48 + k)
theorem dec_ge {u : Nat} (h : 10 ≤ u) : decDigits u = decDigits (u / 10) ++ [chd (u % 10)] := by rw [decDigits, dif_neg (by omega)]
def blk5 (r : Nat) : List UInt8 := [chd (r / 10000), chd (r / 1000 % 10), chd (r / 100 % 10), chd (r / 10 % 10), chd (r % 10)]
theorem dec_block (q r : Nat) (hq : 0 < q) (hr : r < 100000) : decDigits (q * 100000 + r) = decDigits q ++ blk5 r := by
  rw [dec_ge (u := q * 100000 + r) (by omega), dec_ge (u := (q * 100000 + r) / 10) (by omega), dec_ge (u := (q * 100000 + r) / 10 / 10) (by omega), dec_ge (u := (q * 100000 + r) / 10 / 10 / 10) (by omega), dec_ge (u := (q * 100000 + r) / 10 / 10 / 10 / 10) (by omega)]
  rw [show (q * 100000 + r) / 10 / 10 / 10 / 10 / 10 = q by omega, show (q * 100000 + r) / 10 / 10 / 10 / 10 % 10 = r / 10000 by omega, show (q * 100000 + r) / 10 / 10 / 10 % 10 = r / 1000 % 10 by omega, show (q * 100000 + r) / 10 / 10 % 10 = r / 100 % 10 by omega, show (q * 100000 + r) / 10 % 10 = r / 10 % 10 by omega, show (q * 100000 + r) % 10 = r % 10 by omega]
  simp [blk5]
theorem dec_small (r : Nat) (hr : r < 100000) : (decDigits r).length ≤ 5 ∧ repeatL [48] (5 - (decDigits r).length) ++ decDigits r = blk5 r := by
  by_cases h1 : r < 10
  · rw [decDigits_one h1, blk5, show r / 10000 = 0 by omega, show r / 1000 % 10 = 0 by omega, show r / 100 % 10 = 0 by omega, show r / 10 % 10 = 0 by omega, show r % 10 = r by omega]
    exact ⟨by simp, rfl⟩
  · rw [dec_ge (by omega)]
    by_cases h2 : r / 10 < 10
    · rw [decDigits_one h2, blk5, show r / 10000 = 0 by omega, show r / 1000 % 10 = 0 by omega, show r / 100 % 10 = 0 by omega, show r / 10 % 10 = r / 10 by omega]
      exact ⟨by simp, rfl⟩
    · rw [dec_ge (u := r / 10) (by omega)]
      by_cases h3 : r / 10 / 10 < 10
      · rw [decDigits_one h3, blk5, show r / 10000 = 0 by omega, show r / 1000 % 10 = 0 by omega, show r / 100 % 10 = r / 10 / 10 by omega]
        exact ⟨by simp, rfl⟩
      · rw [dec_ge (u := r / 10 / 10) (by omega)]
        by_cases h4 : r / 10 / 10 / 10 < 10
        · rw [decDigits_one h4, blk5, show r / 10000 = 0 by omega, show r / 1000 % 10 = r / 10 / 10 / 10 by omega, show r / 100 % 10 = r / 10 / 10 % 10 by omega]
          exact ⟨by simp, rfl⟩
        · rw [dec_ge (u := r / 10 / 10 / 10) (by omega), decDigits_one (i := r / 10 / 10 / 10 / 10) (by omega), blk5, show r / 10000 = r / 10 / 10 / 10 / 10 by omega, show r / 1000 % 10 = r / 10 / 10 / 10 % 10 by omega, show r / 100 % 10 = r / 10 / 10 % 10 by omega]
          exact ⟨by simp, rfl⟩
theorem dec_pos (u : Nat) : 0 < (decDigits u).length := by
  by_cases h : u < 10
  · rw [decDigits_one h]; simp
  · rw [dec_ge (by omega)]; simp
/-- the text of a number -/
def decZ (u : Int) : List UInt8 := decDigits u.toNat
def txtZ (x : Int) : List UInt8 := if x < 0 then 45 :: decZ (-x) else decZ x
def padZ (r : Int) : List UInt8 := repeatL [48] (5 - (decZ r).length) ++ decZ r
theorem dec_short {r : Int} (h : 0 ≤ r ∧ r < 100000) : (decZ r).length ≤ 5 := (dec_small r.toNat (by omega)).1
theorem itoa_decZ {r : Int} (h : 0 ≤ r) : itoa r = decZ r := if_neg (by omega)
theorem dec_div {u : Int} (h : 100000 ≤ u) : decZ u = decZ (u / 100000) ++ padZ (u % 100000) := by
  have h1 := dec_block (u / 100000).toNat (u % 100000).toNat (by omega) (by omega)
  rw [show (u / 100000).toNat * 100000 + (u % 100000).toNat = u.toNat by omega] at h1
  unfold padZ decZ
  rw [h1, (dec_small _ (by omega)).2]
/-- a power of 2^16: how often a number below pw 60 can be divided -/
def pk : Nat → Int
  | 0 => 1
  | n + 1 => 65536 * pk n
theorem pk_pos : ∀ n, 0 < pk n
  | 0 => by decide
  | n + 1 => by have := pk_pos n; simp only [pk]; omega
theorem pk_mono : ∀ {m n : Nat}, m ≤ n → pk m ≤ pk n
  | m, 0, h => by obtain rfl : m = 0 := by omega
                  exact Int.le_refl _
  | m, n + 1, h => by
    by_cases e : m = n + 1
    · subst e; exact Int.le_refl _
    · have := pk_mono (show m ≤ n by omega)
      have := pk_pos n
      simp only [pk]; omega
theorem pk75 : pk 75 = pw 60 := by decide +kernel
end
end Lf
