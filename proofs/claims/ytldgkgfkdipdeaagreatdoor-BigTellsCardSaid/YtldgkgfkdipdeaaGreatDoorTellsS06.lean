/-
  Part 6 of what the proof rests on.
-/
import Derived.Test.YtldgkgfkdipdeaaGreatDoorTellsS04
import Derived.Lib.ItoaNum
import Derived.Lib.Join
import Derived.Lib.Repeat
import Derived.Lib.SlTrimSet
import Derived.Test.YtldgkgfkdipdeaaGreatDoorTellsS05
section
set_option linter.unusedVariables false
set_option linter.unusedSimpArgs false
namespace Lf
section
theorem split_at {l : List Int} {j : Nat} (h : j < l.length) : val l = val (l.take j) + pw j * (nth l j + 1048576 * val (l.drop (j + 1))) := by
  rw [val_split l (i := j) (by omega), val_drop h]
theorem low_at {l : List Int} (h : Dig l) {j : Nat} (hj : j ≤ l.length) : 0 ≤ val (l.take j) ∧ val (l.take j) < pw j := by
  have h1 := val_lo (h.take j)
  have h2 := val_hi (h.take j)
  rw [List.length_take, Nat.min_eq_left hj] at h2
  exact ⟨h1, h2⟩
theorem nth_dropK {l : List Int} {k j : Nat} : nth (l.drop k) j = nth l (k + j) := by simp [nth, List.getD]
/-- what is known of a window of n + 1 digits, and of n digits that divide it -/
structure Win (W V p top u2 v1 v2 : Int) : Prop where
  p0 : 0 < p
  w : ∃ l, 0 ≤ l ∧ l < p ∧ W = l + p * (u2 + 1048576 * top)
  v : ∃ l, 0 ≤ l ∧ l < p ∧ V = l + p * (v2 + 1048576 * v1)
  u2 : 0 ≤ u2 ∧ u2 < 1048576
  v2 : 0 ≤ v2 ∧ v2 < 1048576
  v1 : 0 < v1 ∧ v1 < 1048576
  t : 0 ≤ top
theorem Win.low {W V p top u2 v1 v2 q : Int} (h : Win W V p top u2 v1 v2) (hq : 0 ≤ q) (hw : q * V ≤ W) : q * (v2 + 1048576 * v1) ≤ u2 + 1048576 * top := by
  obtain ⟨l, h1, h2, h3⟩ := h.w
  obtain ⟨m, h4, h5, h6⟩ := h.v
  have hp := h.p0
  have e : q * V = q * m + p * (q * (v2 + 1048576 * v1)) := by rw [h6]; grind
  have h7 := Int.mul_nonneg hq h4
  have h8 : p * (q * (v2 + 1048576 * v1)) < p * (u2 + 1048576 * top + 1) := by
    rw [Int.mul_add p _ 1]; omega
  have := Int.lt_of_mul_lt_mul_left h8 (by omega)
  omega
theorem Win.lower {W V p top u2 v1 v2 q : Int} (h : Win W V p top u2 v1 v2) (hq : 0 ≤ q) (hw : q * V ≤ W) : q * v1 ≤ top := by
  have h1 := h.low hq hw
  have h2 := Int.mul_nonneg hq h.v2.1
  have h3 := h.u2
  have e : q * (v2 + 1048576 * v1) = q * v2 + 1048576 * (q * v1) := by grind
  rw [e] at h1
  omega
theorem Win.dec {W V p top u2 v1 v2 q g r : Int} (h : Win W V p top u2 v1 v2) (hq : 0 ≤ q) (hw : q * V ≤ W) (hg : g * v1 + r = top) (ht : g * v2 > r * 1048576 + u2) : q ≤ g - 1 := by
  have h1 := h.low hq hw
  have h2 : 0 ≤ v2 + 1048576 * v1 := by have := h.v2; have := h.v1; omega
  by_cases hc : q ≤ g - 1
  · exact hc
  · have h3 : g * (v2 + 1048576 * v1) ≤ q * (v2 + 1048576 * v1) := Int.mul_le_mul_of_nonneg_right (by omega) h2
    have e : g * (v2 + 1048576 * v1) = g * v2 + 1048576 * (g * v1) := by grind
    rw [e] at h3
    omega
theorem Win.upper {W V p top u2 v1 v2 q g r : Int} (h : Win W V p top u2 v1 v2) (hq : 0 ≤ q) (hw : W < q * V + V) (hg : g * v1 + r = top) (hb : g < 1048576) (ht : g * v2 ≤ r * 1048576 + u2) : g ≤ q + 1 := by
  obtain ⟨l, h1, h2, h3⟩ := h.w
  obtain ⟨m, h4, h5, h6⟩ := h.v
  have hp := h.p0
  by_cases hc : g ≤ q + 1
  · exact hc
  · have hv0 : 0 ≤ V := by
      have := Int.mul_nonneg (show 0 ≤ p by omega) (show 0 ≤ v2 + 1048576 * v1 by have := h.v2; have := h.v1; omega)
      omega
    have e1 : q * V + V ≤ (g - 1) * V := by
      have : (q + 1) * V ≤ (g - 1) * V := Int.mul_le_mul_of_nonneg_right (by omega) hv0
      have e : (q + 1) * V = q * V + V := by grind
      omega
    have e2 : (g - 1) * V ≤ (g - 1) * (p * (v2 + 1048576 * v1 + 1)) := Int.mul_le_mul_of_nonneg_left (by rw [h6, Int.mul_add p _ 1]; omega) (by omega)
    have e3 : g * (v2 + 1048576 * v1) ≤ u2 + 1048576 * top := by
      have e : g * (v2 + 1048576 * v1) = g * v2 + 1048576 * (g * v1) := by grind
      rw [e]; omega
    have e4 : p * (g * (v2 + 1048576 * v1)) ≤ p * (u2 + 1048576 * top) := Int.mul_le_mul_of_nonneg_left e3 (by omega)
    have e5 : p * (g * (v2 + 1048576 * v1)) < p * ((g - 1) * (v2 + 1048576 * v1 + 1)) := by
      have e : (g - 1) * (p * (v2 + 1048576 * v1 + 1)) = p * ((g - 1) * (v2 + 1048576 * v1 + 1)) := by grind
      omega
    have e6 := Int.lt_of_mul_lt_mul_left e5 (by omega)
    have e7 : (g - 1) * (v2 + 1048576 * v1 + 1) = g * (v2 + 1048576 * v1) - (v2 + 1048576 * v1) + g - 1 := by grind
    have := h.v1
    have := h.v2
    omega
/-- long division, with i digits of the quotient still to come -/
structure DivI (A V : Int) (n m : Nat) (U Q : List Int) (i : Nat) : Prop where
  ulen : U.length = m + n
  udig : Dig U
  qlen : Q.length = m
  qdig : Dig Q
  small : val (U.drop i) < V
  eq : A = val U + V * (pw i * val (Q.drop i))
theorem DivI.zero {A V : Int} {n m : Nat} {U Q : List Int} {k : Nat} (h : DivI A V n m U Q (k + 1)) (hk : k < m) (hV : V < pw n) : val (U.drop (k + n + 1)) = 0 := by
  have h1 := h.small
  have h2 := h.ulen
  have e := val_split (U.drop (k + 1)) (i := n) (by simp; omega)
  rw [List.drop_drop, show k + 1 + n = k + n + 1 by omega] at e
  have h3 := val_lo ((h.udig.drop (k + 1)).take n)
  have h4 := val_lo (h.udig.drop (k + n + 1))
  by_cases hz : val (U.drop (k + n + 1)) = 0
  · exact hz
  · have : pw n * 1 ≤ pw n * val (U.drop (k + n + 1)) := Int.mul_le_mul_of_nonneg_left (by omega) (by have := pw_pos n; omega)
    omega
theorem DivI.window {A V : Int} {n m : Nat} {U Q : List Int} {k : Nat} (h : DivI A V n m U Q (k + 1)) (hk : k < m) (hV : V < pw n) : val ((U.drop k).take (n + 1)) = val (U.drop k) := by
  have h2 := h.ulen
  have e := val_split (U.drop k) (i := n + 1) (by simp; omega)
  rw [List.drop_drop, show k + (n + 1) = k + n + 1 by omega, h.zero hk hV] at e
  rw [e]; simp
theorem DivI.win {A : Int} {n m : Nat} {U Q v : List Int} {k : Nat} (h : DivI A (val v) n m U Q (k + 1)) (hk : k < m) (hv : Norm v) (hn : v.length = n) (h2 : 2 ≤ n) :
    Win (val (U.drop k)) (val v) (pw (n - 2)) (nth U (k + n) * 1048576 + nth U (k + n - 1)) (nth U (k + n - 2)) (nth v (n - 1)) (nth v (n - 2)) := by
  have hU := h.ulen
  have hVn : val v < pw n := by rw [← hn]; exact val_hi hv.dig
  have hz := h.zero hk hVn
  have d0 := h.udig.nth (show k + n < U.length by omega)
  have d1 := h.udig.nth (show k + n - 1 < U.length by omega)
  have d2 := h.udig.nth (show k + n - 2 < U.length by omega)
  have t1 := topD_nth v (by rintro rfl; simp at hn; omega)
  have t2 := hv.top
  rw [t1, hn] at t2
  have w1 := hv.dig.nth (show n - 1 < v.length by omega)
  have w2 := hv.dig.nth (show n - 2 < v.length by omega)
  refine ⟨pw_pos _, ⟨val ((U.drop k).take (n - 2)), (low_at (h.udig.drop k) (by simp; omega)).1, (low_at (h.udig.drop k) (by simp; omega)).2, ?_⟩, ⟨val (v.take (n - 2)), (low_at hv.dig (by omega)).1, (low_at hv.dig (by omega)).2, ?_⟩, d2, w2, by omega, by omega⟩
  · rw [split_at (l := U.drop k) (j := n - 2) (by simp; omega), List.drop_drop, nth_dropK, show k + (n - 2) = k + n - 2 by omega, show k + (n - 2 + 1) = k + n - 1 by omega,
      val_drop (l := U) (i := k + n - 1) (by omega), show k + n - 1 + 1 = k + n by omega, val_drop (l := U) (i := k + n) (by omega), hz]
    congr 3; omega
  · rw [split_at (l := v) (j := n - 2) (by omega), show n - 2 + 1 = n - 1 by omega, val_drop (l := v) (i := n - 1) (by omega), show n - 1 + 1 = n by omega, List.drop_of_length_le (by omega)]
    simp [val]
theorem DivI.step {A V : Int} {n m : Nat} {U Q : List Int} {k : Nat} (h : DivI A V n m U Q (k + 1)) (hk : k < m) (hV : V < pw n) (hV0 : 0 < V) {q : Int} (hq : 0 ≤ q ∧ q < 1048576) (hw : q * V ≤ val (U.drop k)) (hw2 : val (U.drop k) < q * V + V) :
    DivI A V n m (U.take k ++ digL (n + 1) (val (U.drop k) - q * V) ++ U.drop (k + n + 1)) (Q.set k q) k := by
  have hU := h.ulen
  have hQ := h.qlen
  have hz := h.zero hk hV
  have hp : pw n < pw (n + 1) := pw_lt (Nat.lt_succ_self n)
  obtain ⟨c1, c2, c3⟩ := digL_ok (n + 1) (val (U.drop k) - q * V) (by omega)
  have e1 : (U.take k ++ digL (n + 1) (val (U.drop k) - q * V) ++ U.drop (k + n + 1)).drop k = digL (n + 1) (val (U.drop k) - q * V) ++ U.drop (k + n + 1) := by
    rw [List.append_assoc, List.drop_append_of_le_length (by simp; omega), List.drop_of_length_le (by simp; omega), List.nil_append]
  refine ⟨by simp [c2]; omega, (((h.udig.take k).app c1).app (h.udig.drop _)), by simp [hQ], h.qdig.set hq, ?_, ?_⟩
  · rw [e1, val_app, c3, hz]; omega
  · have h5 := h.eq
    have e2 : val (U.take k ++ digL (n + 1) (val (U.drop k) - q * V) ++ U.drop (k + n + 1)) = val (U.take k) + pw k * (val (U.drop k) - q * V) := by
      rw [val_app, hz, Int.mul_zero, Int.add_zero, val_app, c3, List.length_take, Nat.min_eq_left (by omega)]
    have e3 := val_split U (i := k) (by omega)
    rw [e2, val_drop (l := Q.set k q) (i := k) (by simp; omega), nth_set_self (by omega), List.drop_set_of_lt (by omega)]
    rw [h5, e3, pw]
    grind
end
section
open Go
theorem pw_succ (n : Nat) : pw (n + 1) = 1048576 * pw n := rfl
def sgn (x : Int) : Int := if x < 0 then -1 else if x = 0 then 0 else 1
def mag (x : Int) : Int := if x < 0 then -x else x
abbrev aB (s : Int) (l : List Int) : PV := .agg [.int .i64 s, .sl (l.map encI)]
abbrev zB (x : Int) : PV := aB (sgn x) (digs (mag x))
def okZ (x : Int) : Prop := mag x < pw 60
theorem zeroSub : PSub (.agg [.int .i64 0, .slnil]) (.agg [.int .i64 0, .sl []]) := ⟨.refl _, .nil, trivial⟩
theorem zeroSubZ : PSub (.agg [.int .i64 0, .slnil]) (zB 0) := zeroSub
theorem mag_nn (x : Int) : 0 ≤ mag x := by unfold mag; split <;> omega
theorem sgn_mag (x : Int) : sgn x * mag x = x := by
  unfold sgn mag
  split
  · omega
  · split <;> omega
theorem sgn_cases (x : Int) : (sgn x = -1 ∧ x < 0 ∧ mag x = -x) ∨ (sgn x = 0 ∧ x = 0 ∧ mag x = 0) ∨ (sgn x = 1 ∧ 0 < x ∧ mag x = x) := by
  unfold sgn mag
  by_cases h : x < 0
  · rw [if_pos h, if_pos h]; omega
  · rw [if_neg h, if_neg h]
    by_cases h2 : x = 0
    · rw [if_pos h2]; omega
    · rw [if_neg h2]; omega
theorem val_mag (x : Int) : val (digs (mag x)) = mag x := val_digs (mag_nn x)
/-- a sign and a size -/
theorem num_of {s v z : Int} (hv : 0 ≤ v) (hs : s = 1 ∨ s = -1 ∨ v = 0) (hz : z = s * v) : mag z = v ∧ sgn z = if v = 0 then 0 else s := by
  rcases hs with rfl | rfl | rfl
  · have := sgn_cases z
    by_cases h : v = 0
    · rw [if_pos h]; omega
    · rw [if_neg h]; omega
  · have := sgn_cases z
    by_cases h : v = 0
    · rw [if_pos h]; omega
    · rw [if_neg h]; omega
  · rw [Int.mul_zero] at hz
    subst hz
    exact ⟨rfl, rfl⟩
def digB (d : Int) : Bool := decide (0 ≤ d) && decide (d < 1048576)
def rightB (s : Int) (l : List Int) : Bool := l.all digB && if l.length = 0 then decide (s = 0) else ((decide (s = 1) || decide (s = -1)) && decide (l.length ≤ 60) && !decide (nth l (l.length - 1) = 0))
theorem all_dig {l : List Int} : l.all digB = true ↔ Dig l := by
  rw [List.all_eq_true]
  constructor
  · intro h d hd
    have := h d hd
    simp only [digB, Bool.and_eq_true, decide_eq_true_iff] at this; exact this
  · intro h d hd
    have := h d hd
    simp only [digB, Bool.and_eq_true, decide_eq_true_iff]; exact this
theorem right_num {s : Int} {l : List Int} (h : rightB s l = true) : ∃ x, okZ x ∧ s = sgn x ∧ l = digs (mag x) := by
  rw [rightB, Bool.and_eq_true, all_dig] at h
  obtain ⟨hd, h⟩ := h
  by_cases hl : l.length = 0
  · rw [if_pos hl, decide_eq_true_iff] at h
    obtain rfl := List.length_eq_zero_iff.1 hl
    subst h
    exact ⟨0, pw_pos 60, rfl, rfl⟩
  · rw [if_neg hl] at h
    simp only [Bool.and_eq_true, Bool.or_eq_true, decide_eq_true_iff, Bool.not_eq_true', decide_eq_false_iff_not] at h
    obtain ⟨⟨h1, h2⟩, h3⟩ := h
    have hn : Norm l := ⟨hd, by rw [topD_nth l (fun e => hl (by rw [e]; rfl))]; exact h3⟩
    have hp := hn.pos (fun e => hl (by rw [e]; rfl))
    obtain ⟨e1, e2⟩ := num_of (s := s) (v := val l) (by omega) (by omega) rfl
    refine ⟨s * val l, ?_, ?_, ?_⟩
    · have := val_hi hd
      have := pw_mono h2
      unfold okZ; omega
    · rw [e2, if_neg (by omega)]
    · rw [e1]; exact hn.digs
theorem num_len {x : Int} (h : okZ x) : (digs (mag x)).length ≤ 60 := (digs_len (mag_nn x)).2 h
theorem num_right {x : Int} (h : okZ x) : rightB (sgn x) (digs (mag x)) = true := by
  have hn := digs_norm (mag x)
  have hl := num_len h
  rw [rightB, Bool.and_eq_true, all_dig]
  refine ⟨hn.dig, ?_⟩
  have hc := sgn_cases x
  by_cases h0 : (digs (mag x)).length = 0
  · have := (digs_nil (mag_nn x)).1 (List.length_eq_zero_iff.1 h0)
    rw [if_pos h0, decide_eq_true_iff]; omega
  · have h1 : mag x ≠ 0 := fun e => h0 (by rw [e]; rfl)
    have ht := hn.top
    rw [topD_nth _ (fun e => h0 (by rw [e]; rfl))] at ht
    rw [if_neg h0]
    simp only [Bool.and_eq_true, Bool.or_eq_true, decide_eq_true_iff, Bool.not_eq_true', decide_eq_false_iff_not]
    exact ⟨⟨by omega, hl⟩, ht⟩
theorem num_inj {x y : Int} (hs : sgn x = sgn y) (hd : digs (mag x) = digs (mag y)) : x = y := by
  have := digs_inj (mag_nn x) (mag_nn y) hd
  rw [← sgn_mag x, ← sgn_mag y, hs, this]
theorem okZ.lt {x : Int} (h : okZ x) : -pw 60 < x ∧ x < pw 60 := by
  have := sgn_cases x
  unfold okZ at h; omega
theorem okZ.of {x : Int} (h : -pw 60 < x ∧ x < pw 60) : okZ x := by
  have := sgn_cases x
  unfold okZ; omega
theorem okZ.zero : okZ 0 := pw_pos 60
theorem digs_mono {u v : Int} (hu : 0 ≤ u) (h : u ≤ v) : (digs u).length ≤ (digs v).length := by
  have h1 := val_hi (digs_norm v).dig
  rw [val_digs (by omega)] at h1
  exact (digs_len hu).2 (by omega)
/-- the quotient, rounded down, and what is left -/
def quoZ (x y : Int) : Int := if 0 < y then x / y else -x / -y
def remZ (x y : Int) : Int := x - y * quoZ x y
theorem quo_uniq {x y q r : Int} (hy : y ≠ 0) (h : x = y * q + r) (h1 : 0 < y → 0 ≤ r ∧ r < y) (h2 : y < 0 → y < r ∧ r ≤ 0) : q = quoZ x y ∧ r = remZ x y := by
  have e : q = quoZ x y := by
    unfold quoZ
    by_cases hp : 0 < y
    · rw [if_pos hp]
      obtain ⟨a, b⟩ := h1 hp
      rw [h, Int.mul_add_ediv_left _ _ hy, Int.ediv_eq_zero_of_lt a b]; omega
    · rw [if_neg hp]
      obtain ⟨a, b⟩ := h2 (by omega)
      rw [show -x = -y * q + -r by rw [h, Int.neg_mul]; omega, Int.mul_add_ediv_left _ _ (by omega), Int.ediv_eq_zero_of_lt (by omega) (by omega)]; omega
  exact ⟨e, by unfold remZ; rw [← e]; omega⟩
theorem rem_rng {x y : Int} (hy : y ≠ 0) : (0 < y → 0 ≤ remZ x y ∧ remZ x y < y) ∧ (y < 0 → y < remZ x y ∧ remZ x y ≤ 0) := by
  constructor
  · intro hp
    have e1 := Int.emod_add_mul_ediv x y
    have e2 := Int.emod_nonneg x hy
    have e3 := Int.emod_lt_of_pos x hp
    rw [remZ, quoZ, if_pos hp]; omega
  · intro hn
    have e1 := Int.emod_add_mul_ediv (-x) (-y)
    have e2 := Int.emod_nonneg (-x) (show -y ≠ 0 by omega)
    have e3 := Int.emod_lt_of_pos (-x) (show 0 < -y by omega)
    rw [Int.neg_mul] at e1
    rw [remZ, quoZ, if_neg (by omega)]; omega
theorem quo_rem (x y : Int) : x = y * quoZ x y + remZ x y := by unfold remZ; omega
end
section
open Go Go.Lib
theorem zB0 : zB 0 = aB 0 [] := rfl
abbrev chd (k : Nat) : UInt8 := UInt8.ofNat (48 + k)
theorem dec_ge {u : Nat} (h : 10 ≤ u) : decDigits u = decDigits (u / 10) ++ [chd (u % 10)] := by rw [decDigits, dif_neg (by omega)]
def blk5 (r : Nat) : List UInt8 := [chd (r / 10000), chd (r / 1000 % 10), chd (r / 100 % 10), chd (r / 10 % 10), chd (r % 10)]
theorem dec_block (q r : Nat) (hq : 0 < q) (hr : r < 100000) : decDigits (q * 100000 + r) = decDigits q ++ blk5 r := by
  rw [dec_ge (u := q * 100000 + r) (by omega), dec_ge (u := (q * 100000 + r) / 10) (by omega), dec_ge (u := (q * 100000 + r) / 10 / 10) (by omega), dec_ge (u := (q * 100000 + r) / 10 / 10 / 10) (by omega), dec_ge (u := (q * 100000 + r) / 10 / 10 / 10 / 10) (by omega)]
  rw [show (q * 100000 + r) / 10 / 10 / 10 / 10 / 10 = q by omega, show (q * 100000 + r) / 10 / 10 / 10 / 10 % 10 = r / 10000 by omega, show (q * 100000 + r) / 10 / 10 / 10 % 10 = r / 1000 % 10 by omega, show (q * 100000 + r) / 10 / 10 % 10 = r / 100 % 10 by omega, show (q * 100000 + r) / 10 % 10 = r / 10 % 10 by omega, show (q * 100000 + r) % 10 = r % 10 by omega]
  simp [blk5]
theorem dec_small (r : Nat) (hr : r < 100000) : (decDigits r).length ≤ 5 ∧ repeatL [48] (5 - (decDigits r).length) ++ decDigits r = blk5 r := by
  by_cases h1 : r < 10
  · rw [decDigits_one h1, blk5, show r / 10000 = 0 by omega, show r / 1000 % 10 = 0 by omega, show r / 100 % 10 = 0 by omega, show r / 10 % 10 = 0 by omega, show r % 10 = r by omega]
    exact ⟨by simp, rfl⟩
  · rw [dec_ge (by omega)]
    by_cases h2 : r / 10 < 10
    · rw [decDigits_one h2, blk5, show r / 10000 = 0 by omega, show r / 1000 % 10 = 0 by omega, show r / 100 % 10 = 0 by omega, show r / 10 % 10 = r / 10 by omega]
      exact ⟨by simp, rfl⟩
    · rw [dec_ge (u := r / 10) (by omega)]
      by_cases h3 : r / 10 / 10 < 10
      · rw [decDigits_one h3, blk5, show r / 10000 = 0 by omega, show r / 1000 % 10 = 0 by omega, show r / 100 % 10 = r / 10 / 10 by omega]
        exact ⟨by simp, rfl⟩
      · rw [dec_ge (u := r / 10 / 10) (by omega)]
        by_cases h4 : r / 10 / 10 / 10 < 10
        · rw [decDigits_one h4, blk5, show r / 10000 = 0 by omega, show r / 1000 % 10 = r / 10 / 10 / 10 by omega, show r / 100 % 10 = r / 10 / 10 % 10 by omega]
          exact ⟨by simp, rfl⟩
        · rw [dec_ge (u := r / 10 / 10 / 10) (by omega), decDigits_one (i := r / 10 / 10 / 10 / 10) (by omega), blk5, show r / 10000 = r / 10 / 10 / 10 / 10 by omega, show r / 1000 % 10 = r / 10 / 10 / 10 % 10 by omega, show r / 100 % 10 = r / 10 / 10 % 10 by omega]
          exact ⟨by simp, rfl⟩
/-- the text of a number -/
def decZ (u : Int) : List UInt8 := decDigits u.toNat
def txtZ (x : Int) : List UInt8 := if x < 0 then 45 :: decZ (-x) else decZ x
def padZ (r : Int) : List UInt8 := repeatL [48] (5 - (decZ r).length) ++ decZ r
theorem dec_short {r : Int} (h : 0 ≤ r ∧ r < 100000) : (decZ r).length ≤ 5 := (dec_small r.toNat (by omega)).1
theorem itoa_decZ {r : Int} (h : 0 ≤ r) : itoa r = decZ r := if_neg (by omega)
theorem dec_div {u : Int} (h : 100000 ≤ u) : decZ u = decZ (u / 100000) ++ padZ (u % 100000) := by
  have h1 := dec_block (u / 100000).toNat (u % 100000).toNat (by omega) (by omega)
  rw [show (u / 100000).toNat * 100000 + (u % 100000).toNat = u.toNat by omega] at h1
  unfold padZ decZ
  rw [h1, (dec_small _ (by omega)).2]
/-- a power of 2^16: how often a number below pw 60 can be divided -/
def pk : Nat → Int
  | 0 => 1
  | n + 1 => 65536 * pk n
theorem pk_pos : ∀ n, 0 < pk n
  | 0 => by decide
  | n + 1 => by have := pk_pos n; simp only [pk]; omega
theorem pk_mono : ∀ {m n : Nat}, m ≤ n → pk m ≤ pk n
  | m, 0, h => by obtain rfl : m = 0 := by omega
                  exact Int.le_refl _
  | m, n + 1, h => by
    by_cases e : m = n + 1
    · subst e; exact Int.le_refl _
    · have := pk_mono (show m ≤ n by omega)
      have := pk_pos n
      simp only [pk]; omega
theorem pk75 : pk 75 = pw 60 := by decide +kernel
end
end Lf
end
section
set_option linter.unusedVariables false
set_option linter.unusedSimpArgs false
set_option maxHeartbeats 8000000
namespace Go.Proofs.YtldgkgfkdipdeaaGreatDoor
open Lf Go
attribute [local irreducible] PureOp EffOp Ev RG W Then InBlock Lf.Fin nth App InitE Pick SubE EvL EvD EvP EvR ResL Lf.Lex SubR SubBR FinO FinM ResM ResD FinS val pw digs trimL
structure TimK (a b out : List Int) (i k : Nat) (c : Int) : Prop where
  len : out.length = a.length + b.length
  dig : Dig out
  c0 : 0 ≤ c ∧ c < 1048576
  top : b.length < k → c = 0
  eq : val out + pw (i + k) * c = val (a.take i) * val b + nth a i * (pw i * val (b.take k))
  high : k ≤ b.length → nth out (i + b.length) = 0
  high2 : ∀ j, i + 1 + b.length ≤ j → j < out.length → nth out j = 0
theorem TimK.step {a b out : List Int} {i k : Nat} {c : Int} (h : TimK a b out i k c) (hi : i < a.length) (hk : k ≤ b.length) (ha : Dig a) (hb : Dig b) {n : Int} (hn : n = nth out (i + k) + nth a i * vj b k + c) :
    TimK a b (out.set (i + k) (n % 1048576)) i (k + 1) (n / 1048576) := by
  have h1 := h.len
  have h2 := h.dig.nth (show i + k < out.length by omega)
  have h3 := mul_le (ha.nth hi) (vj_dig hb k)
  have h4 := h.c0
  have h5 := h.eq
  have h0 : k = b.length → n = c := fun e => by
    subst e
    rw [hn, h.high (by omega), vj_no (by omega)]; omega
  refine ⟨by simp [h1], h.dig.set (by omega), by omega, fun q => ?_, ?_, fun q => ?_, fun j hj hj2 => ?_⟩
  · have := h0 (by omega); omega
  · rw [val_set (by omega), show i + (k + 1) = (i + k) + 1 by omega, pw, vj_take]
    have h6 := Int.emod_add_mul_ediv n 1048576
    have h7 := pw_add k i
    generalize n % 1048576 = r at h6 ⊢
    generalize n / 1048576 = q at h6 ⊢
    generalize nth out (i + k) = o at hn ⊢
    generalize nth a i = x at *
    generalize vj b k = y at *
    generalize pw (i + k) = p at *
    generalize val (b.take k) = w at *
    generalize val (a.take i) * val b = u at *
    subst h7
    have e : n = o + x * y + c := hn
    have e2 : r = n - 1048576 * q := by omega
    subst e2
    subst e
    grind
  · rw [nth_set_ne (by omega)]
    exact h.high hk
  · rw [nth_set_ne (by omega)]
    exact h.high2 j hj (by simpa using hj2)
theorem TimK.done {a b out : List Int} {i k : Nat} (h : TimK a b out i k 0) (hi : i < a.length) (hk : b.length ≤ k) : MulI a b out (i + 1) := by
  refine ⟨h.len, h.dig, ?_, fun j hj hj2 => h.high2 j (by omega) hj2⟩
  have h5 := h.eq
  rw [val_take hi]
  rw [List.take_of_length_le hk] at h5
  generalize pw i = p at *
  generalize val (a.take i) = u at *
  grind
theorem rtimes_ok (a b : List Int) (da : Dig a) (db : Dig b) (hl : a.length ≤ 1000000) (hl' : b.length ≤ 1000000) : ACalls Tryz.prog 45 [slI a, slI b] (.pv (slI (digs (val a * val b)))) := by
  have h2 := rdigit_ok b
  have key : ∀ (out : List Int), MulI a b out a.length → ACalls Tryz.prog 51 [slI out] (.pv (slI (digs (val a * val b)))) := fun out h => by
    rw [← trim_eq h.dig (by rw [h.eq, List.take_length])]; exact rtrim_ok out (by rw [h.len]; omega)
  refine ACalls.of_W (qs := [slI (digs (val a * val b))]) [4] 60 Tryz.func45 (by kernel_rfl) rfl rfl rfl fun G => ?_
  refine W.initA (hw := ?_)
  repeat' (first | ((first | apply U_ | (apply Ug_; exact rfl; exact rfl) | (apply Ugq_; exact rfl; exact rfl) | apply Lex.u | (apply Lex.g; exact rfl; exact rfl) | (apply Lex.gq; exact rfl; exact rfl)); (first | exact QX.Move TYok | exact QX.Asg TYok | exact QX.Ld TYok | exact QX.Bin TYok | exact QX.Pick TYok | exact QX.Len TYok | exact QX.Idx TYok); exact rfl) | refine SX.Store TYok (h := ?_) | refine SX.Make TYok (h := ?_) | apply RG.nil | apply Lex.nil | apply Then.n | apply Then.r | apply Then.x | apply InBlock.n | apply InBlock.r | apply InBlock.hit | (apply InBlock.miss; exact rfl) | apply W.seq | apply W.region | apply W.block | apply W.skip | apply W.ret | apply W.exit | (apply RG.gT; exact rfl; exact rfl; (first | assumption | decide)) | (apply RG.gF; exact rfl; exact rfl; (first | assumption | decide | (rw [ne_eq, Bool.not_eq_true]; assumption) | (rw [ne_eq, Bool.not_eq_false]; assumption)); exact rfl) | (apply W.draw2 (id := 9) [0, 0, 0, 6, 15, 31, 0, 0, 192, 448, 0, 0, 3072, 8128, 16383, 0, 65535, 131071] [[5], [6], [8], [33, 34], [32, 35], [36], [0], [6], [38, 39], [40], [1], [8], [42, 43], [41, 44], [37, 45], [7], [46, 47], [48]] 18 [(32, 32), (33, 64), (34, 256), (35, 25769803776), (36, 38654705664), (37, 68719476736), (38, 1), (39, 64), (40, 824633720832), (41, 1099511627776), (42, 2), (43, 256), (44, 13194139533312), (45, 19791209299968), (46, 35321811042304), (47, 128), (48, 211106232532992), (9, 281474976710656)] mixed (by kernel_rfl) rfl rfl) | (refine W.condA (ht := fun hb => ?_) (hf := fun hb => ?_) <;> (try simp at hb) <;> (try (exfalso; omega))))
  apply W.loopP (σ := Nat × List Int) 60 [0, 1] (fun (i, out) => i ≤ a.length ∧ MulI a b out i) (fun (i, out) => [(6, vI i), (5, (True, .slc 15))]) (fun (i, out) => [(15, ⟨3, 1, out.map Lf.encI⟩)]) (fun (i, out) => a.length - i) ((0, List.replicate (a.length + b.length) 0))
  case hp => repeat (first | exact Pick.nil | apply Pick.cons rfl)
  case h0 =>
    refine ⟨⟨by simp, by simp, Dig.rep _, by simp [val, val_rep], fun j hj hj2 => ?_⟩, ?_⟩
    · simp at hj2; simp [nth, hj2]
    exact Le.auto
  case round =>
    rintro ⟨i, out⟩ ⟨g1, g2⟩
    have g3 := g2.len
    dsimp only at g1 ⊢
    apply W.norm (by repeat (first | exact App.nil | apply App.cons))
    by_cases hi : i < a.length
    · have g5 := da.nth hi
      repeat' (first | ((first | apply U_ | (apply Ug_; exact rfl; exact rfl) | (apply Ugq_; exact rfl; exact rfl) | apply Lex.u | (apply Lex.g; exact rfl; exact rfl) | (apply Lex.gq; exact rfl; exact rfl)); (first | exact QX.Move TYok | exact QX.Asg TYok | exact QX.Ld TYok | exact QX.Bin TYok | exact QX.Pick TYok | exact QX.Len TYok | exact QX.Idx TYok); exact rfl) | refine SX.Store TYok (h := ?_) | refine SX.Make TYok (h := ?_) | apply RG.nil | apply Lex.nil | apply Then.n | apply Then.r | apply Then.x | apply InBlock.n | apply InBlock.r | apply InBlock.hit | (apply InBlock.miss; exact rfl) | apply W.seq | apply W.region | apply W.block | apply W.skip | apply W.ret | apply W.exit | (apply RG.gT; exact rfl; exact rfl; (first | assumption | decide)) | (apply RG.gF; exact rfl; exact rfl; (first | assumption | decide | (rw [ne_eq, Bool.not_eq_true]; assumption) | (rw [ne_eq, Bool.not_eq_false]; assumption)); exact rfl) | (apply W.draw2 (id := 9) [0, 0, 0, 6, 15, 31, 0, 0, 192, 448, 0, 0, 3072, 8128, 16383, 0, 65535, 131071] [[5], [6], [8], [33, 34], [32, 35], [36], [0], [6], [38, 39], [40], [1], [8], [42, 43], [41, 44], [37, 45], [7], [46, 47], [48]] 18 [(32, 32), (33, 64), (34, 256), (35, 25769803776), (36, 38654705664), (37, 68719476736), (38, 1), (39, 64), (40, 824633720832), (41, 1099511627776), (42, 2), (43, 256), (44, 13194139533312), (45, 19791209299968), (46, 35321811042304), (47, 128), (48, 211106232532992), (9, 281474976710656)] mixed (by kernel_rfl) rfl rfl) | (refine W.condA (ht := fun hb => ?_) (hf := fun hb => ?_) <;> (try simp at hb) <;> (try (exfalso; omega))))
      apply W.loopP (σ := Nat × Int × List Int) 60 [0, 1, 6] (fun (k, c, out) => k ≤ b.length + 1 ∧ TimK a b out i k c) (fun (k, c, out) => [(8, vI k), (7, vI c), (5, (True, .slc 15))]) (fun (k, c, out) => [(15, ⟨3, 1, out.map Lf.encI⟩)]) (fun (k, c, out) => b.length + 1 - k) ((0, 0, out))
      case hp => repeat (first | exact Pick.nil | apply Pick.cons rfl)
      case h0 =>
        refine ⟨⟨by simp, g2.len, g2.dig, by omega, fun q => by simp at q, by rw [g2.eq]; simp [val], fun _ => g2.high _ (by omega) (by omega), fun j hj hj2 => g2.high j (by omega) hj2⟩, ?_⟩
        exact Le.auto
      case round =>
        rintro ⟨k, c, out⟩ ⟨f1, f2⟩
        have f3 := f2.len
        have f4 := f2.c0
        have f8 := f2.top
        dsimp only at f1 ⊢
        apply W.norm (by repeat (first | exact App.nil | apply App.cons))
        by_cases hk : k < b.length ∨ 0 < c
        · have hk2 : k ≤ b.length := by omega
          have f5 := mul_le g5 (vj_dig db k)
          have f6 := f2.dig.nth (show i + k < out.length by omega)
          have f7 : 0 ≤ nth out ((i : Int) + (k : Int)).toNat ∧ nth out ((i : Int) + (k : Int)).toNat < 1048576 := f6
          repeat' (first | ((first | apply U_ | (apply Ug_; exact rfl; exact rfl) | (apply Ugq_; exact rfl; exact rfl) | apply Lex.u | (apply Lex.g; exact rfl; exact rfl) | (apply Lex.gq; exact rfl; exact rfl)); (first | exact QX.Move TYok | exact QX.Asg TYok | exact QX.Ld TYok | exact QX.Bin TYok | exact QX.Pick TYok | exact QX.Len TYok | exact QX.Idx TYok | (apply Q_call (h2 k); exact EvL.auto; exact rfl)); exact rfl) | refine SX.Store TYok (h := ?_) | refine SX.Make TYok (h := ?_) | apply RG.nil | apply Lex.nil | apply Then.n | apply Then.r | apply Then.x | apply InBlock.n | apply InBlock.r | apply InBlock.hit | (apply InBlock.miss; exact rfl) | apply W.seq | apply W.region | apply W.block | apply W.skip | apply W.ret | apply W.exit | (apply RG.gT; exact rfl; exact rfl; (first | assumption | decide)) | (apply RG.gF; exact rfl; exact rfl; (first | assumption | decide | (rw [ne_eq, Bool.not_eq_true]; assumption) | (rw [ne_eq, Bool.not_eq_false]; assumption)); exact rfl) | (apply W.draw2 (id := 9) [0, 0, 0, 6, 15, 31, 0, 0, 192, 448, 0, 0, 3072, 8128, 16383, 0, 65535, 131071] [[5], [6], [8], [33, 34], [32, 35], [36], [0], [6], [38, 39], [40], [1], [8], [42, 43], [41, 44], [37, 45], [7], [46, 47], [48]] 18 [(32, 32), (33, 64), (34, 256), (35, 25769803776), (36, 38654705664), (37, 68719476736), (38, 1), (39, 64), (40, 824633720832), (41, 1099511627776), (42, 2), (43, 256), (44, 13194139533312), (45, 19791209299968), (46, 35321811042304), (47, 128), (48, 211106232532992), (9, 281474976710656)] mixed (by kernel_rfl) rfl rfl) | (refine W.condA (ht := fun hb => ?_) (hf := fun hb => ?_) <;> (try simp at hb) <;> (try (exfalso; omega))))
          · refine ⟨(k + 1, (nth out (i + k) + nth a i * vj b k + c) / 1048576, out.set (i + k) ((nth out (i + k) + nth a i * vj b k + c) % 1048576)), ⟨by omega, f2.step hi hk2 da db rfl⟩, ?_, by (try dsimp only); omega⟩
            exact Le.auto
          all_goals (exfalso; omega)
        · obtain rfl : c = 0 := by omega
          repeat' (first | ((first | apply U_ | (apply Ug_; exact rfl; exact rfl) | (apply Ugq_; exact rfl; exact rfl) | apply Lex.u | (apply Lex.g; exact rfl; exact rfl) | (apply Lex.gq; exact rfl; exact rfl)); (first | exact QX.Move TYok | exact QX.Asg TYok | exact QX.Ld TYok | exact QX.Bin TYok | exact QX.Pick TYok | exact QX.Len TYok | exact QX.Idx TYok); exact rfl) | refine SX.Store TYok (h := ?_) | refine SX.Make TYok (h := ?_) | apply RG.nil | apply Lex.nil | apply Then.n | apply Then.r | apply Then.x | apply InBlock.n | apply InBlock.r | apply InBlock.hit | (apply InBlock.miss; exact rfl) | apply W.seq | apply W.region | apply W.block | apply W.skip | apply W.ret | apply W.exit | (apply RG.gT; exact rfl; exact rfl; (first | assumption | decide)) | (apply RG.gF; exact rfl; exact rfl; (first | assumption | decide | (rw [ne_eq, Bool.not_eq_true]; assumption) | (rw [ne_eq, Bool.not_eq_false]; assumption)); exact rfl) | (apply W.draw2 (id := 9) [0, 0, 0, 6, 15, 31, 0, 0, 192, 448, 0, 0, 3072, 8128, 16383, 0, 65535, 131071] [[5], [6], [8], [33, 34], [32, 35], [36], [0], [6], [38, 39], [40], [1], [8], [42, 43], [41, 44], [37, 45], [7], [46, 47], [48]] 18 [(32, 32), (33, 64), (34, 256), (35, 25769803776), (36, 38654705664), (37, 68719476736), (38, 1), (39, 64), (40, 824633720832), (41, 1099511627776), (42, 2), (43, 256), (44, 13194139533312), (45, 19791209299968), (46, 35321811042304), (47, 128), (48, 211106232532992), (9, 281474976710656)] mixed (by kernel_rfl) rfl rfl) | (refine W.condA (ht := fun hb => ?_) (hf := fun hb => ?_) <;> (try simp at hb) <;> (try (exfalso; omega))))
          refine ⟨(i + 1, out), ⟨by omega, f2.done hi (by omega)⟩, ?_, by (try dsimp only); omega⟩
          exact Le.auto
    · obtain rfl : i = a.length := by omega
      have k1 := key out g2
      repeat' (first | (refine W.weaken (Le.freeze1 (m := 15) rfl) ?_; apply W.region (id := 12)) | ((first | apply U_ | (apply Ug_; exact rfl; exact rfl) | (apply Ugq_; exact rfl; exact rfl) | apply Lex.u | (apply Lex.g; exact rfl; exact rfl) | (apply Lex.gq; exact rfl; exact rfl)); (first | exact QX.Move TYok | exact QX.Asg TYok | exact QX.Ld TYok | exact QX.Bin TYok | exact QX.Pick TYok | exact QX.Len TYok | exact QX.Idx TYok | (apply Q_calld (k1); exact EvD.auto)); exact rfl) | refine SX.Store TYok (h := ?_) | refine SX.Make TYok (h := ?_) | apply RG.nil | apply Lex.nil | apply Then.n | apply Then.r | apply Then.x | apply InBlock.n | apply InBlock.r | apply InBlock.hit | (apply InBlock.miss; exact rfl) | apply W.seq | apply W.region | apply W.block | apply W.skip | apply W.ret | apply W.exit | (apply RG.gT; exact rfl; exact rfl; (first | assumption | decide)) | (apply RG.gF; exact rfl; exact rfl; (first | assumption | decide | (rw [ne_eq, Bool.not_eq_true]; assumption) | (rw [ne_eq, Bool.not_eq_false]; assumption)); exact rfl) | (apply W.draw2 (id := 9) [0, 0, 0, 6, 15, 31, 0, 0, 192, 448, 0, 0, 3072, 8128, 16383, 0, 65535, 131071] [[5], [6], [8], [33, 34], [32, 35], [36], [0], [6], [38, 39], [40], [1], [8], [42, 43], [41, 44], [37, 45], [7], [46, 47], [48]] 18 [(32, 32), (33, 64), (34, 256), (35, 25769803776), (36, 38654705664), (37, 68719476736), (38, 1), (39, 64), (40, 824633720832), (41, 1099511627776), (42, 2), (43, 256), (44, 13194139533312), (45, 19791209299968), (46, 35321811042304), (47, 128), (48, 211106232532992), (9, 281474976710656)] mixed (by kernel_rfl) rfl rfl) | (refine W.condA (ht := fun hb => ?_) (hf := fun hb => ?_) <;> (try simp at hb) <;> (try (exfalso; omega))))
      exact Fin.ret ResL.auto
theorem ShortI.step2 {a out : List Int} {d : Int} {i : Nat} {r q : Int} (h : ShortI a out d (i + 1) r) (hi : i < a.length) (ha : Dig a) (hd : 0 < d) (hq : q = (r * 1048576 + nth a i) / d) :
    ShortI a (out.set i q) d i ((r * 1048576 + nth a i) % d) := by
  subst hq
  have h1 := h.len
  have h2 := ha.nth hi
  have h3 := h.r0
  have h4 := h.eq
  have hq0 : 0 ≤ (r * 1048576 + nth a i) / d := Int.ediv_nonneg (by omega) (by omega)
  have hq1 : (r * 1048576 + nth a i) / d < 1048576 := Int.ediv_lt_of_lt_mul hd (by omega)
  refine ⟨by simp [h1], h.dig.set ⟨hq0, hq1⟩, ⟨Int.emod_nonneg _ (by omega), Int.emod_lt_of_pos _ hd⟩, ?_⟩
  rw [val_drop hi, val_drop (l := out.set i ((r * 1048576 + nth a i) / d)) (i := i) (by rw [List.length_set]; omega), nth_set_self (by omega), drop_set_gt]
  have h6 := Int.emod_add_mul_ediv (r * 1048576 + nth a i) d
  generalize (r * 1048576 + nth a i) % d = x at *
  generalize (r * 1048576 + nth a i) / d = y at *
  grind
theorem quo_between {x d lo hi : Int} (hd : 0 < d) (h1 : lo * d ≤ x) (h2 : x < hi * d) (h3 : hi - lo ≤ 1) (h4 : lo < hi) : lo = x / d ∧ x - d * lo = x % d := by
  obtain rfl : hi = lo + 1 := by omega
  have e : x / d = lo := by
    have a1 : lo ≤ x / d := (Int.le_ediv_iff_mul_le hd).2 h1
    have a2 : x / d < lo + 1 := Int.ediv_lt_of_lt_mul hd h2
    omega
  refine ⟨e.symm, ?_⟩
  have := Int.emod_add_mul_ediv x d
  rw [e] at this
  omega
theorem rover_ok (a b : List Int) (da : Dig a) (db : Dig b) (hl : a.length ≤ 1000000) (hl' : b.length ≤ 900000) (h0 : 0 < val b) : ACalls Tryz.prog 47 [slI a, slI b] (.tup [slI (digs (val a / val b)), slI (digs (val a % val b))]) := by
  have key : ∀ (out : List Int) (r : Int), ShortI a out (val b) 0 r → ACalls Tryz.prog 51 [slI out] (.pv (slI (digs (val a / val b)))) := fun out r h => by
    rw [← h.done.1]; exact rtrim_ok out (by rw [h.len]; omega)
  have k29 : ∀ x r : Int, 0 ≤ x → x < 1048576 → 0 ≤ r → r < val b → ACalls Tryz.prog 51 [slI (x :: digs r)] (.pv (slI (digs (r * 1048576 + x)))) := fun x r h1 h2 h3 h4 => by
    have hlr : (digs r).length ≤ b.length := (digs_len h3).2 (by have := val_hi db; omega)
    rw [← trim_eq (l := x :: digs r) (x := r * 1048576 + x) (Dig.cons ⟨h1, h2⟩ (digs_norm r).dig) (by rw [val, val_digs h3]; omega)]
    exact rtrim_ok _ (by simp; omega)
  have k42 : ∀ m : Int, 0 ≤ m → m < 1048576 → ACalls Tryz.prog 45 [slI b, slI [m]] (.pv (slI (digs (val b * m)))) := fun m h1 h2 => by
    have := rtimes_ok b [m] db (Dig.cons ⟨h1, h2⟩ Dig.nil) (by omega) (by simp)
    rwa [val_one] at this
  have k54 : ∀ m : Int, 0 ≤ m → m < 1048576 → ACalls Tryz.prog 51 [slI [m]] (.pv (slI (digs m))) := fun m h1 h2 => by
    rw [← trim_eq (l := [m]) (Dig.cons ⟨h1, h2⟩ Dig.nil) (val_one m)]
    exact rtrim_ok [m] (by simp)
  have k55 : ∀ m : Int, 0 ≤ m → m < 1048576 → ACalls Tryz.prog 45 [slI b, slI (digs m)] (.pv (slI (digs (val b * m)))) := fun m h1 h2 => by
    have := rtimes_ok b (digs m) db (digs_norm m).dig (by omega) (by have := (digs_len h1 (n := 1)).2 (by simpa [pw] using h2); omega)
    rwa [val_digs h1] at this
  have lp : ∀ y : Int, 0 ≤ y → y < 1048576 * val b → (digs y).length ≤ b.length + 1 := fun y h1 h2 => (digs_len h1).2 (by
    have := val_hi db
    have := pw_succ b.length
    omega)
  have k43 : ∀ x y : Int, 0 ≤ x → x < 1048576 * val b → 0 ≤ y → y < 1048576 * val b → ACalls Tryz.prog 42 [slI (digs x), slI (digs y)] (.pv (cB (decide (x < y)))) := fun x y h1 h2 h3 h4 => by
    have e1 := lp x h1 h2
    have e2 := lp y h3 h4
    have := rless_ok (digs x) (digs y) (digs_norm x).dig (digs_norm y).dig (by omega) (by omega)
    rwa [val_digs h1, val_digs h3] at this
  have k56 : ∀ x y : Int, 0 ≤ y → y ≤ x → x < 1048576 * val b → ACalls Tryz.prog 43 [slI (digs x), slI (digs y)] (.pv (slI (digs (x - y)))) := fun x y h1 h2 h3 => by
    have e1 := lp x (by omega) h3
    have := rminus_ok (digs x) (digs y) (digs_norm x).dig (digs_norm y).dig (by omega) (digs_mono h1 h2) (by rw [val_digs h1, val_digs (by omega)]; omega)
    rwa [val_digs h1, val_digs (by omega)] at this
  refine ACalls.of_W (qs := [slI (digs (val a / val b)), slI (digs (val a % val b))]) [4, 5] 60 Tryz.func47 (by kernel_rfl) rfl rfl rfl fun G => ?_
  refine W.initA (hw := ?_)
  repeat' (first | ((first | apply U_); (first | exact QX.Move TYok | exact QX.Asg TYok | exact QX.Ld TYok | exact QX.Bin TYok | exact QX.Len TYok | exact QX.Idx TYok); exact rfl) | refine SX.Store TYok (h := ?_) | refine SX.Lit TYok (h := ?_) | refine SX.Make TYok (h := ?_) | refine SX.App TYok (h := ?_) | apply RG.nil | apply Lex.nil | apply Then.n | apply Then.r | apply Then.x | apply InBlock.n | apply InBlock.r | apply InBlock.hit | (apply InBlock.miss; exact rfl) | apply W.seq | apply W.region | apply W.block | apply W.skip | apply W.ret | apply W.exit | (refine W.condA (ht := fun hb => ?_) (hf := fun hb => ?_) <;> (try simp at hb) <;> (try (exfalso; omega))))
  refine W.weaken (Le.sub (t := 7) (q := True) (p' := slI (digs 0)) rfl (by rw [digs_zero]; exact PSub.nil')) ?_
  apply W.loopP (σ := Nat × Int × List Int) 60 [0, 1] (fun (i, r, out) => i ≤ a.length ∧ ShortI a out (val b) i r) (fun (i, r, out) => [(8, vI ((i : Int) - 1)), (7, (True, .pv (slI (digs r)))), (6, (True, .slc 14))]) (fun (i, r, out) => [(14, ⟨3, 1, out.map Lf.encI⟩)]) (fun (i, r, out) => i) ((a.length, 0, List.replicate a.length 0))
  case hp => repeat (first | exact Pick.nil | apply Pick.cons rfl)
  case h0 =>
    refine ⟨⟨by simp, by simp, Dig.rep _, by omega, by simp [val]⟩, ?_⟩
    exact Le.auto
  case round =>
    rintro ⟨i, r, out⟩ ⟨g1, g2⟩
    have g3 := g2.len
    have g4 := g2.r0
    dsimp only at g1 g2 ⊢
    apply W.norm (by repeat (first | exact App.nil | apply App.cons))
    cases i with
    | succ i =>
      have hia : i < a.length := by omega
      have e1 : ((i + 1 : Nat) : Int) - 1 = i := by omega
      have g5 := da.nth hia
      rw [e1]
      have hlr : (digs r).length ≤ b.length := (digs_len g4.1).2 (by have := val_hi db; omega)
      have c29 := k29 (nth a i) r g5.1 g5.2 g4.1 g4.2
      have x0 : 0 ≤ r * 1048576 + nth a i := by omega
      have x1 : r * 1048576 + nth a i < 1048576 * val b := by omega
      repeat' (first | (refine RG.weaken (Le.freeze1 (m := 28) rfl) ?_) | ((first | apply U_); (first | exact QX.Move TYok | exact QX.Asg TYok | exact QX.Ld TYok | exact QX.Bin TYok | exact QX.Len TYok | exact QX.Idx TYok | (apply Q_calld (c29); exact EvD.auto)); exact rfl) | refine SX.Store TYok (h := ?_) | refine SX.Lit TYok (h := ?_) | refine SX.Make TYok (h := ?_) | refine SX.App TYok (h := ?_) | apply RG.nil | apply Lex.nil | apply Then.n | apply Then.r | apply Then.x | apply InBlock.n | apply InBlock.r | apply InBlock.hit | (apply InBlock.miss; exact rfl) | apply W.seq | apply W.region | apply W.block | apply W.skip | apply W.ret | apply W.exit | (refine W.condA (ht := fun hb => ?_) (hf := fun hb => ?_) <;> (try simp at hb) <;> (try (exfalso; omega))))
      apply W.loopP (σ := Int × Int) 60 [0, 1, 6, 7, 8] (fun (lo, hi) => 0 ≤ lo ∧ lo < hi ∧ hi ≤ 1048576 ∧ lo * val b ≤ r * 1048576 + nth a i ∧ r * 1048576 + nth a i < hi * val b) (fun (lo, hi) => [(9, vI lo), (10, vI hi)]) (fun _ => [(14, ⟨3, 1, out.map Lf.encI⟩)]) (fun (lo, hi) => (hi - lo).toNat) ((0, 1048576))
      case hp => repeat (first | exact Pick.nil | apply Pick.cons rfl)
      case h0 =>
        refine ⟨⟨by omega, by omega, by omega, by omega, by omega⟩, ?_⟩
        exact Le.auto
      case round =>
        rintro ⟨lo, hi⟩ ⟨f1, f2, f3, f4, f5⟩
        dsimp only at f1 f2 f3 f4 f5 ⊢
        apply W.norm (by repeat (first | exact App.nil | apply App.cons))
        by_cases hc : hi - lo > 1
        · have m1 : lo < (lo + hi) / 2 ∧ (lo + hi) / 2 < hi := by omega
          have c42 := k42 ((lo + hi) / 2) (by omega) (by omega)
          have hv : 0 ≤ val b * ((lo + hi) / 2) ∧ val b * ((lo + hi) / 2) < 1048576 * val b := by
            refine ⟨Int.mul_nonneg (by omega) (by omega), ?_⟩
            rw [Int.mul_comm]
            exact Int.mul_lt_mul_of_pos_right (by omega) h0
          have c43 := k43 (r * 1048576 + nth a i) (val b * ((lo + hi) / 2)) x0 x1 hv.1 hv.2
          repeat' (first | ((first | apply U_); (first | (apply Q_litD TYok; (repeat (first | exact EvR.nil | apply EvR.cons Ev.auto)); exact rfl; exact rfl; exact rfl; exact rfl; exact rfl; exact rfl) | exact QX.Move TYok | exact QX.Asg TYok | exact QX.Ld TYok | exact QX.Bin TYok | exact QX.Len TYok | exact QX.Idx TYok | (apply Q_calld (c42); exact EvD.auto) | (apply Q_calld (c43); exact EvD.auto)); exact rfl) | refine SX.Store TYok (h := ?_) | refine SX.Lit TYok (h := ?_) | refine SX.Make TYok (h := ?_) | refine SX.App TYok (h := ?_) | apply RG.nil | apply Lex.nil | apply Then.n | apply Then.r | apply Then.x | apply InBlock.n | apply InBlock.r | apply InBlock.hit | (apply InBlock.miss; exact rfl) | apply W.seq | apply W.region | apply W.block | apply W.skip | apply W.ret | apply W.exit | (refine W.condA (ht := fun hb => ?_) (hf := fun hb => ?_) <;> (try simp at hb) <;> (try (exfalso; omega))))
          · refine ⟨(lo, (lo + hi) / 2), ⟨by omega, by omega, by omega, f4, Int.mul_comm (val b) _ ▸ hb⟩, ?_, by (try dsimp only); omega⟩
            exact Le.auto
          · refine ⟨((lo + hi) / 2, hi), ⟨by omega, by omega, by omega, by rw [Int.mul_comm (_ : Int) (val b)]; dsimp only; omega, f5⟩, ?_, by (try dsimp only); omega⟩
            exact Le.auto
        · obtain ⟨e2, e3⟩ := quo_between h0 f4 f5 (by omega) f2
          have g6 := g2.step2 (q := lo) hia da h0 e2
          have c54 := k54 lo f1 (by omega)
          have c55 := k55 lo f1 (by omega)
          have c56 := k56 (r * 1048576 + nth a i) (val b * lo) (Int.mul_nonneg (by omega) f1) (by rw [Int.mul_comm]; exact f4) x1
          rw [e3] at c56
          repeat' (first | ((first | apply U_); (first | (apply Q_litD TYok; (repeat (first | exact EvR.nil | apply EvR.cons Ev.auto)); exact rfl; exact rfl; exact rfl; exact rfl; exact rfl; exact rfl) | exact QX.Move TYok | exact QX.Asg TYok | exact QX.Ld TYok | exact QX.Bin TYok | exact QX.Len TYok | exact QX.Idx TYok | (apply Q_calld (c54); exact EvD.auto) | (apply Q_calld (c55); exact EvD.auto) | (apply Q_calld (c56); exact EvD.auto)); exact rfl) | refine SX.Store TYok (h := ?_) | refine SX.Lit TYok (h := ?_) | refine SX.Make TYok (h := ?_) | refine SX.App TYok (h := ?_) | apply RG.nil | apply Lex.nil | apply Then.n | apply Then.r | apply Then.x | apply InBlock.n | apply InBlock.r | apply InBlock.hit | (apply InBlock.miss; exact rfl) | apply W.seq | apply W.region | apply W.block | apply W.skip | apply W.ret | apply W.exit | (refine W.condA (ht := fun hb => ?_) (hf := fun hb => ?_) <;> (try simp at hb) <;> (try (exfalso; omega))))
          refine ⟨(i, (r * 1048576 + nth a i) % val b, out.set i lo), ⟨by omega, g6⟩, ?_, by (try dsimp only); omega⟩
          exact Le.auto
    | zero =>
      have k1 := key out r g2
      repeat' (first | (refine W.weaken (Le.freeze1 (m := 14) rfl) ?_; apply W.region (id := 16)) | ((first | apply U_); (first | exact QX.Move TYok | exact QX.Asg TYok | exact QX.Ld TYok | exact QX.Bin TYok | exact QX.Len TYok | exact QX.Idx TYok | (apply Q_calld (k1); exact EvD.auto)); exact rfl) | refine SX.Store TYok (h := ?_) | refine SX.Lit TYok (h := ?_) | refine SX.Make TYok (h := ?_) | refine SX.App TYok (h := ?_) | apply RG.nil | apply Lex.nil | apply Then.n | apply Then.r | apply Then.x | apply InBlock.n | apply InBlock.r | apply InBlock.hit | (apply InBlock.miss; exact rfl) | apply W.seq | apply W.region | apply W.block | apply W.skip | apply W.ret | apply W.exit | (refine W.condA (ht := fun hb => ?_) (hf := fun hb => ?_) <;> (try simp at hb) <;> (try (exfalso; omega))))
      rw [← g2.done.2]
      exact Fin.ret ResL.auto
end Go.Proofs.YtldgkgfkdipdeaaGreatDoor
end
section
set_option linter.unusedVariables false
set_option linter.unusedSimpArgs false
set_option maxHeartbeats 8000000
namespace Go.Proofs.YtldgkgfkdipdeaaGreatDoor
open Lf Go
attribute [local irreducible] PureOp EffOp Ev RG W Then InBlock Lf.Fin nth App InitE Pick SubE EvL EvD EvP EvR ResL Lf.Lex SubR SubBR FinO FinM ResM ResD FinS val pw digs trimL
theorem norm_top {b : List Int} (nb : Norm b) (h : b ≠ []) : 0 < nth b (b.length - 1) ∧ nth b (b.length - 1) < 1048576 := by
  have h1 := nb.top
  rw [topD_nth b h] at h1
  have := nb.dig.nth (show b.length - 1 < b.length by have := List.length_pos_iff.2 h; omega)
  omega
theorem div_lt (a b : List Int) (na : Norm a) (nb : Norm b) (hl : a.length ≤ 100000) (hl' : b.length ≤ 100000) (hv : val a < val b) : ACalls Tryz.prog 46 [slI a, slI b] (.tup [slI (digs (val a / val b)), slI (digs (val a % val b))]) := by
  have h1 := compare_ok a b na nb (by omega) (by omega)
  rw [show cmpI (val a) (val b) = -1 from if_pos hv] at h1
  have h2 := clone_ok a (by omega)
  have h3 := val_lo na.dig
  rw [Int.ediv_eq_zero_of_lt h3 hv, Int.emod_eq_of_lt h3 hv, digs_zero, ← na.digs]
  refine ACalls.of_W (qs := [slI [], slI a]) [4, 5] 170 Tryz.func46 (by kernel_rfl) rfl rfl rfl fun G => ?_
  refine W.initA (hw := ?_)
  repeat' (first | ((first | apply U_ | (apply Ug_; exact rfl; exact rfl) | (apply Ugq_; exact rfl; exact rfl) | apply Lex.u | (apply Lex.g; exact rfl; exact rfl) | (apply Lex.gq; exact rfl; exact rfl)); (first | exact QX.Move TYok | exact QX.Asg TYok | exact QX.Ld TYok | exact QX.Bin TYok | exact QX.Pick TYok | exact QX.Len TYok | exact QX.Idx TYok | exact QX.Ext TYok | exact QX.Cut TYok | (apply Q_call (h1); exact EvL.auto; exact rfl)); exact rfl) | refine SX.Store TYok (h := ?_) | refine SX.Lit TYok (h := ?_) | refine SX.Make TYok (h := ?_) | refine SX.App TYok (h := ?_) | (apply S_callo (h2); exact rfl; exact rfl; exact rfl; exact EvD.auto) | apply RG.nil | apply Lex.nil | apply Then.n | apply Then.r | apply Then.x | apply InBlock.n | apply InBlock.r | apply InBlock.hit | (apply InBlock.miss; exact rfl) | apply W.seq | apply W.region | apply W.block | apply W.skip | apply W.ret | apply W.exit | (apply S_isnil TYok; exact rfl; exact rfl; exact rfl; exact Ev.auto; intro bn hnil) | (apply RG.gT; exact rfl; exact rfl; (first | assumption | decide)) | (apply RG.gF; exact rfl; exact rfl; (first | assumption | decide | (rw [ne_eq, Bool.not_eq_true]; assumption) | (rw [ne_eq, Bool.not_eq_false]; assumption)); exact rfl) | (apply W.draw2 (id := 17) [0, 0, 0, 6, 15, 31, 63, 0, 0, 0, 768, 1792, 3968, 8064, 16383, 32767] [[9], [13], [11], [84, 85], [83, 86], [87], [88], [9], [13], [11], [91, 92], [93], [90, 94], [95], [89, 96], [97]] 16 [(83, 512), (84, 8192), (85, 2048), (86, 58028439341502200385896448), (87, 87042659012253300578844672), (88, 154742504910672534362390528), (89, 309485009821345068724781056), (90, 512), (91, 8192), (92, 2048), (93, 7427640235712281649394745344), (94, 9903520314283042199192993792), (95, 21044980667851464673285111808), (96, 39614081257132168796771975168), (97, 79847132533907027730993512448), (14, 158456325028528675187087900672)] mixed (by kernel_rfl) rfl rfl) | (apply W.draw2 (id := 18) [0, 0, 0, 4, 14, 30, 63, 0, 0, 0, 512, 1792, 3840, 8064, 127, 32767] [[14], [10], [11], [100], [99, 101], [102], [98, 103], [14], [10], [11], [107], [106, 108], [109], [105, 110], [104], [111]] 16 [(98, 16384), (99, 1024), (100, 2048), (101, 1267650600228229401496703205376), (102, 3169126500570573503741758013440), (103, 5070602400912917605986812821504), (104, 10458117451882892562347801444352), (105, 16384), (106, 1024), (107, 2048), (108, 162259276829213363391578010288128), (109, 405648192073033408478945025720320), (110, 649037107316853453566312041152512), (111, 1338639033841010247980518584877056), (15, 20282409603651670423947251286016), (16, 2596148429267413814265248164610048)] mixed (by kernel_rfl) rfl rfl) | (apply W.draw2 (id := 19) [0, 1, 3, 7, 15, 31, 63, 63, 63, 319, 959, 1983, 4095, 63, 8255, 63, 63, 63, 196671, 458815, 1015871, 2064447, 4186175, 8388607, 16777215, 33554431] [[15], [112], [113], [16, 114], [115, 114], [116, 114], [15, 117], [10, 117], [11, 117], [120, 117], [119, 121, 117], [122, 117], [118, 123, 117], [16, 117], [125, 117], [9, 117], [13, 117], [11, 117], [128, 129, 117], [130, 117], [127, 131, 117], [132, 117], [126, 133, 117], [124, 134, 117], [117, 135, 114], [114, 136]] 26 [(112, 32768), (113, 5192296858534827628530496329220096), (114, 10384593717069655257060992658440192), (115, 20769187434139310514121985316945920), (116, 62307562302417931542365955950641152), (117, 103845937170696552570609926584401920), (118, 166153499473114484112975882535075840), (119, 166153499473114484112975882535044096), (120, 166153499473114484112975882535045120), (121, 1495381495258030357016782942815387648), (122, 3489223488935404166372493533235904512), (123, 5483065482612777975728204123656421376), (124, 11132284464698670435569384129847885824), (125, 166153499473114484112975882535108608), (126, 42701449364590422417034801811506069504), (127, 166153499473114484112975882535043584), (128, 166153499473114484112975882535051264), (129, 166153499473114484112975882535045120), (130, 1021013254262288504874236798177839677440), (131, 1361295621183226968337611405609607888896), (132, 2892566272327450053922797139052564840448), (133, 5444684024234488529898106694790826426368), (134, 10974272486699738561177944065557059862528), (135, 21799505284372093430106548764480186089472), (136, 43556329888567030577106576849134182989824), (137, 87112306700947680785934413624517979013120)] mixed (by kernel_rfl) rfl rfl) | (refine W.condA (ht := fun hb => ?_) (hf := fun hb => ?_) <;> (try simp at hb) <;> (try (exfalso; omega))))
  exact Fin.ret ResL.auto
theorem cmp_ge {x y : Int} (h : y ≤ x) : 0 ≤ cmpI x y := by
  unfold cmpI; rw [if_neg (by omega)]; split <;> omega
theorem div_one (a b : List Int) (na : Norm a) (nb : Norm b) (hl : a.length ≤ 100000) (hl' : b.length = 1) (hv : val b ≤ val a) : ACalls Tryz.prog 46 [slI a, slI b] (.tup [slI (digs (val a / val b)), slI (digs (val a % val b))]) := by
  have h1 := compare_ok a b na nb (by omega) (by omega)
  have hc := cmp_ge hv
  generalize cmpI (val a) (val b) = c at h1 hc
  obtain ⟨d, rfl⟩ : ∃ d, b = [d] := by
    cases b with
    | nil => simp at hl'
    | cons d r => cases r with
      | nil => exact ⟨d, rfl⟩
      | cons x y => simp at hl'
  have hd := nb.dig.hd
  have ht := nb.top
  simp only [topD] at ht
  have h2 := short_ok a d na.dig (by omega) (by omega)
  rw [val_one]
  have hr := Int.emod_nonneg (val a) (show d ≠ 0 by omega)
  have hr2 := Int.emod_lt_of_pos (val a) (show 0 < d by omega)
  have h3 : ACalls Tryz.prog 50 [slI [val a % d]] (.pv (slI (digs (val a % d)))) := by
    rw [← trim_eq (l := [val a % d]) (Dig.cons (by omega) Dig.nil) (val_one _)]
    exact trim_ok _ (by simp)
  have e0 : nth [d] 0 = d := by simp [nth]
  generalize digs (val a / d) = q at h2 ⊢
  generalize val a % d = r at h2 h3 ⊢
  replace h2 : ACalls Tryz.prog 55 [slI a, cI (nth [d] 0)] (.tup [slI q, cI r]) := by rw [e0]; exact h2
  refine ACalls.of_W (qs := [slI q, slI (digs r)]) [4, 5] 170 Tryz.func46 (by kernel_rfl) rfl rfl rfl fun G => ?_
  refine W.initA (hw := ?_)
  repeat' (first | (refine RG.weaken (Le.freeze1 (m := 38) rfl) ?_) | ((first | apply U_ | (apply Ug_; exact rfl; exact rfl) | (apply Ugq_; exact rfl; exact rfl) | apply Lex.u | (apply Lex.g; exact rfl; exact rfl) | (apply Lex.gq; exact rfl; exact rfl)); (first | exact QX.Move TYok | exact QX.Asg TYok | exact QX.Ld TYok | exact QX.Bin TYok | exact QX.Pick TYok | exact QX.Len TYok | exact QX.Idx TYok | exact QX.Ext TYok | exact QX.Cut TYok | (apply Q_call (h1); exact EvL.auto; exact rfl) | (apply Q_calld (h2); exact EvD.auto) | (apply Q_calld (h3); exact EvD.auto)); exact rfl) | refine SX.Store TYok (h := ?_) | refine SX.Lit TYok (h := ?_) | refine SX.Make TYok (h := ?_) | refine SX.App TYok (h := ?_) | apply RG.nil | apply Lex.nil | apply Then.n | apply Then.r | apply Then.x | apply InBlock.n | apply InBlock.r | apply InBlock.hit | (apply InBlock.miss; exact rfl) | apply W.seq | apply W.region | apply W.block | apply W.skip | apply W.ret | apply W.exit | (apply S_isnil TYok; exact rfl; exact rfl; exact rfl; exact Ev.auto; intro bn hnil) | (apply RG.gT; exact rfl; exact rfl; (first | assumption | decide)) | (apply RG.gF; exact rfl; exact rfl; (first | assumption | decide | (rw [ne_eq, Bool.not_eq_true]; assumption) | (rw [ne_eq, Bool.not_eq_false]; assumption)); exact rfl) | (apply W.draw2 (id := 17) [0, 0, 0, 6, 15, 31, 63, 0, 0, 0, 768, 1792, 3968, 8064, 16383, 32767] [[9], [13], [11], [84, 85], [83, 86], [87], [88], [9], [13], [11], [91, 92], [93], [90, 94], [95], [89, 96], [97]] 16 [(83, 512), (84, 8192), (85, 2048), (86, 58028439341502200385896448), (87, 87042659012253300578844672), (88, 154742504910672534362390528), (89, 309485009821345068724781056), (90, 512), (91, 8192), (92, 2048), (93, 7427640235712281649394745344), (94, 9903520314283042199192993792), (95, 21044980667851464673285111808), (96, 39614081257132168796771975168), (97, 79847132533907027730993512448), (14, 158456325028528675187087900672)] mixed (by kernel_rfl) rfl rfl) | (apply W.draw2 (id := 18) [0, 0, 0, 4, 14, 30, 63, 0, 0, 0, 512, 1792, 3840, 8064, 127, 32767] [[14], [10], [11], [100], [99, 101], [102], [98, 103], [14], [10], [11], [107], [106, 108], [109], [105, 110], [104], [111]] 16 [(98, 16384), (99, 1024), (100, 2048), (101, 1267650600228229401496703205376), (102, 3169126500570573503741758013440), (103, 5070602400912917605986812821504), (104, 10458117451882892562347801444352), (105, 16384), (106, 1024), (107, 2048), (108, 162259276829213363391578010288128), (109, 405648192073033408478945025720320), (110, 649037107316853453566312041152512), (111, 1338639033841010247980518584877056), (15, 20282409603651670423947251286016), (16, 2596148429267413814265248164610048)] mixed (by kernel_rfl) rfl rfl) | (apply W.draw2 (id := 19) [0, 1, 3, 7, 15, 31, 63, 63, 63, 319, 959, 1983, 4095, 63, 8255, 63, 63, 63, 196671, 458815, 1015871, 2064447, 4186175, 8388607, 16777215, 33554431] [[15], [112], [113], [16, 114], [115, 114], [116, 114], [15, 117], [10, 117], [11, 117], [120, 117], [119, 121, 117], [122, 117], [118, 123, 117], [16, 117], [125, 117], [9, 117], [13, 117], [11, 117], [128, 129, 117], [130, 117], [127, 131, 117], [132, 117], [126, 133, 117], [124, 134, 117], [117, 135, 114], [114, 136]] 26 [(112, 32768), (113, 5192296858534827628530496329220096), (114, 10384593717069655257060992658440192), (115, 20769187434139310514121985316945920), (116, 62307562302417931542365955950641152), (117, 103845937170696552570609926584401920), (118, 166153499473114484112975882535075840), (119, 166153499473114484112975882535044096), (120, 166153499473114484112975882535045120), (121, 1495381495258030357016782942815387648), (122, 3489223488935404166372493533235904512), (123, 5483065482612777975728204123656421376), (124, 11132284464698670435569384129847885824), (125, 166153499473114484112975882535108608), (126, 42701449364590422417034801811506069504), (127, 166153499473114484112975882535043584), (128, 166153499473114484112975882535051264), (129, 166153499473114484112975882535045120), (130, 1021013254262288504874236798177839677440), (131, 1361295621183226968337611405609607888896), (132, 2892566272327450053922797139052564840448), (133, 5444684024234488529898106694790826426368), (134, 10974272486699738561177944065557059862528), (135, 21799505284372093430106548764480186089472), (136, 43556329888567030577106576849134182989824), (137, 87112306700947680785934413624517979013120)] mixed (by kernel_rfl) rfl rfl) | (refine W.condA (ht := fun hb => ?_) (hf := fun hb => ?_) <;> (try simp at hb) <;> (try (exfalso; omega))))
  exact Fin.ret ResL.auto
theorem shift_le {x s : Int} (hx : 0 < x ∧ x < 1048576) (hs : 1 ≤ s ∧ s < 1048576) : x ≤ x * s ∧ s ≤ x * s ∧ x * s ≤ 1099509530625 := by
  have h1 := mul_le ⟨by omega, hx.2⟩ ⟨by omega, hs.2⟩
  have h2 : x * 1 ≤ x * s := Int.mul_le_mul_of_nonneg_left hs.1 (by omega)
  have h3 : 1 * s ≤ x * s := Int.mul_le_mul_of_nonneg_right (by omega) (by omega)
  omega
theorem shift_len {a : List Int} (na : Norm a) (ha : a ≠ []) {s : Int} (hs : 1 ≤ s ∧ s < 1048576) : (digs (val a * s)).length ≤ a.length + 1 ∧ a.length ≤ (digs (val a * s)).length ∧ val a ≤ val a * s := by
  have h0 := val_lo na.dig
  have h1 : val a * 1 ≤ val a * s := Int.mul_le_mul_of_nonneg_left hs.1 h0
  have h2 : val a * s ≤ val a * 1048576 := Int.mul_le_mul_of_nonneg_left (by omega) h0
  have h3 := val_hi na.dig
  have h4 := na.lo ha
  refine ⟨(digs_len (by omega)).2 (by rw [pw]; omega), ?_, by omega⟩
  have h5 := val_hi (digs_norm (val a * s)).dig
  rw [val_digs (by omega)] at h5
  have := pw_inj (show pw (a.length - 1) < pw (digs (val a * s)).length by omega)
  omega
theorem div_long (a b : List Int) (na : Norm a) (nb : Norm b) (hl : a.length ≤ 100000) (hb2 : 2 ≤ b.length) (hv : val b ≤ val a) : ACalls Tryz.prog 46 [slI a, slI b] (.tup [slI (digs (val a / val b)), slI (digs (val a % val b))]) := by
  have hbl : b.length ≤ a.length := by
    have h1 := nb.lo (by rintro rfl; simp at hb2)
    have h2 := val_hi na.dig
    have := pw_inj (show pw (b.length - 1) < pw a.length by omega)
    omega
  have h1 := compare_ok a b na nb (by omega) (by omega)
  have hc := cmp_ge hv
  generalize cmpI (val a) (val b) = c at h1 hc
  have hbt := norm_top nb (by rintro rfl; simp at hb2)
  refine ACalls.of_W (qs := [slI (digs (val a / val b)), slI (digs (val a % val b))]) [4, 5] 170 Tryz.func46 (by kernel_rfl) rfl rfl rfl fun G => ?_
  refine W.initA (hw := ?_)
  repeat' (first | ((first | apply U_ | (apply Ug_; exact rfl; exact rfl) | (apply Ugq_; exact rfl; exact rfl) | apply Lex.u | (apply Lex.g; exact rfl; exact rfl) | (apply Lex.gq; exact rfl; exact rfl)); (first | exact QX.Move TYok | exact QX.Asg TYok | exact QX.Ld TYok | exact QX.Bin TYok | exact QX.Pick TYok | exact QX.Len TYok | exact QX.Idx TYok | exact QX.Ext TYok | exact QX.Cut TYok | (apply Q_call (h1); exact EvL.auto; exact rfl)); exact rfl) | refine SX.Store TYok (h := ?_) | refine SX.Lit TYok (h := ?_) | refine SX.Make TYok (h := ?_) | refine SX.App TYok (h := ?_) | apply RG.nil | apply Lex.nil | apply Then.n | apply Then.r | apply Then.x | apply InBlock.n | apply InBlock.r | apply InBlock.hit | (apply InBlock.miss; exact rfl) | apply W.seq | apply W.region | apply W.block | apply W.skip | apply W.ret | apply W.exit | (apply S_isnil TYok; exact rfl; exact rfl; exact rfl; exact Ev.auto; intro bn hnil) | (apply RG.gT; exact rfl; exact rfl; (first | assumption | decide)) | (apply RG.gF; exact rfl; exact rfl; (first | assumption | decide | (rw [ne_eq, Bool.not_eq_true]; assumption) | (rw [ne_eq, Bool.not_eq_false]; assumption)); exact rfl) | (apply W.draw2 (id := 17) [0, 0, 0, 6, 15, 31, 63, 0, 0, 0, 768, 1792, 3968, 8064, 16383, 32767] [[9], [13], [11], [84, 85], [83, 86], [87], [88], [9], [13], [11], [91, 92], [93], [90, 94], [95], [89, 96], [97]] 16 [(83, 512), (84, 8192), (85, 2048), (86, 58028439341502200385896448), (87, 87042659012253300578844672), (88, 154742504910672534362390528), (89, 309485009821345068724781056), (90, 512), (91, 8192), (92, 2048), (93, 7427640235712281649394745344), (94, 9903520314283042199192993792), (95, 21044980667851464673285111808), (96, 39614081257132168796771975168), (97, 79847132533907027730993512448), (14, 158456325028528675187087900672)] mixed (by kernel_rfl) rfl rfl) | (apply W.draw2 (id := 18) [0, 0, 0, 4, 14, 30, 63, 0, 0, 0, 512, 1792, 3840, 8064, 127, 32767] [[14], [10], [11], [100], [99, 101], [102], [98, 103], [14], [10], [11], [107], [106, 108], [109], [105, 110], [104], [111]] 16 [(98, 16384), (99, 1024), (100, 2048), (101, 1267650600228229401496703205376), (102, 3169126500570573503741758013440), (103, 5070602400912917605986812821504), (104, 10458117451882892562347801444352), (105, 16384), (106, 1024), (107, 2048), (108, 162259276829213363391578010288128), (109, 405648192073033408478945025720320), (110, 649037107316853453566312041152512), (111, 1338639033841010247980518584877056), (15, 20282409603651670423947251286016), (16, 2596148429267413814265248164610048)] mixed (by kernel_rfl) rfl rfl) | (apply W.draw2 (id := 19) [0, 1, 3, 7, 15, 31, 63, 63, 63, 319, 959, 1983, 4095, 63, 8255, 63, 63, 63, 196671, 458815, 1015871, 2064447, 4186175, 8388607, 16777215, 33554431] [[15], [112], [113], [16, 114], [115, 114], [116, 114], [15, 117], [10, 117], [11, 117], [120, 117], [119, 121, 117], [122, 117], [118, 123, 117], [16, 117], [125, 117], [9, 117], [13, 117], [11, 117], [128, 129, 117], [130, 117], [127, 131, 117], [132, 117], [126, 133, 117], [124, 134, 117], [117, 135, 114], [114, 136]] 26 [(112, 32768), (113, 5192296858534827628530496329220096), (114, 10384593717069655257060992658440192), (115, 20769187434139310514121985316945920), (116, 62307562302417931542365955950641152), (117, 103845937170696552570609926584401920), (118, 166153499473114484112975882535075840), (119, 166153499473114484112975882535044096), (120, 166153499473114484112975882535045120), (121, 1495381495258030357016782942815387648), (122, 3489223488935404166372493533235904512), (123, 5483065482612777975728204123656421376), (124, 11132284464698670435569384129847885824), (125, 166153499473114484112975882535108608), (126, 42701449364590422417034801811506069504), (127, 166153499473114484112975882535043584), (128, 166153499473114484112975882535051264), (129, 166153499473114484112975882535045120), (130, 1021013254262288504874236798177839677440), (131, 1361295621183226968337611405609607888896), (132, 2892566272327450053922797139052564840448), (133, 5444684024234488529898106694790826426368), (134, 10974272486699738561177944065557059862528), (135, 21799505284372093430106548764480186089472), (136, 43556329888567030577106576849134182989824), (137, 87112306700947680785934413624517979013120)] mixed (by kernel_rfl) rfl rfl) | (refine W.condA (ht := fun hb => ?_) (hf := fun hb => ?_) <;> (try simp at hb) <;> (try (exfalso; omega))))
  apply W.loopP (σ := Int) 170 [0, 1] (fun s => 1 ≤ s ∧ s < 1048576) (fun s => [(8, vI s)]) (fun _ => []) (fun s => (1048576 - s).toNat) (1)
  case hp => repeat (first | exact Pick.nil | apply Pick.cons rfl)
  case h0 =>
    refine ⟨by omega, ?_⟩
    exact Le.auto
  case round =>
    intro s hs
    have hs2 := shift_le hbt hs
    have hs3 : 0 ≤ nth b ((b.length : Int) - 1).toNat * s ∧ s ≤ nth b ((b.length : Int) - 1).toNat * s ∧ nth b ((b.length : Int) - 1).toNat * s ≤ 1099509530625 := by
      rw [show ((b.length : Int) - 1).toNat = b.length - 1 by omega]; omega
    have m1 := mul_own a [s] na.dig (Dig.cons (by omega) Dig.nil) (by omega) (by simp) (by simp)
    have m2 := mul_ok b [s] nb.dig (Dig.cons (by omega) Dig.nil) (by omega) (by simp)
    rw [val_one] at m1 m2
    have l1 := shift_len na (fun h => by rw [h] at hbl; simp only [List.length_nil] at hbl; omega) hs
    have l2 := shift_len nb (by rintro rfl; simp at hb2) hs
    have hrow : (digs (val a * s)).map Lf.encI ++ [[Cell.int .i64 0]] = (digs (val a * s) ++ [0]).map Lf.encI := by simp [Lf.encI]
    have hAV : val b * s ≤ val a * s := Int.mul_le_mul_of_nonneg_right hv (by omega)
    have dD := digs_norm (val a * s)
    have eD : val (digs (val a * s)) = val a * s := val_digs (by have := val_lo na.dig; omega)
    have dV := digs_norm (val b * s)
    have eV : val (digs (val b * s)) = val b * s := val_digs (by have := val_lo nb.dig; omega)
    generalize digs (val a * s) = D at *
    generalize digs (val b * s) = V at *
    have lVD : V.length ≤ D.length := by
      have := dV.lo (fun h => by rw [h, List.length_nil] at l2; omega)
      have := val_hi dD.dig
      have := pw_inj (show pw (V.length - 1) < pw D.length by omega)
      omega
    have hu : (D ++ [(0 : Int)]).length = D.length + 1 := by simp
    have hV2 : 2 ≤ V.length := by omega
    have hVpos := dV.pos (fun h => by rw [h, List.length_nil] at hV2; omega)
    have hVhi := val_hi dV.dig
    have hM : ∃ M : Nat, D.length + 1 = M + V.length := ⟨D.length + 1 - V.length, by omega⟩
    obtain ⟨M, hM⟩ := hM
    have hrl : (List.replicate M (0 : Int)).length = M := by simp
    have hrep : ∀ k : Nat, k = M → List.replicate k [Cell.int .i64 0] = (List.replicate M (0 : Int)).map Lf.encI := fun k hk => by subst hk; simp [Lf.encI]
    apply W.norm (by repeat (first | exact App.nil | apply App.cons))
    repeat' (first | (refine RG.weaken (Le.freeze1 (m := 53) rfl) ?_) | (refine RG.weaken (Le.freeze1 (m := 59) rfl) ?_) | (refine W.weaken (Le.rowsEq (n := 56) _ rfl rfl hrow) ?_; apply W.region (id := 10)) | (refine W.weaken (Le.rowsEq (n := 75) _ rfl rfl (hrep _ (by omega))) ?_; apply W.region (id := 14)) | ((first | apply U_ | (apply Ug_; exact rfl; exact rfl) | (apply Ugq_; exact rfl; exact rfl) | apply Lex.u | (apply Lex.g; exact rfl; exact rfl) | (apply Lex.gq; exact rfl; exact rfl)); (first | exact QX.Move TYok | exact QX.Asg TYok | exact QX.Ld TYok | exact QX.Bin TYok | exact QX.Pick TYok | exact QX.Len TYok | exact QX.Idx TYok | exact QX.Ext TYok | exact QX.Cut TYok | (apply Q_calld (m2); exact EvD.auto)); exact rfl) | refine SX.Store TYok (h := ?_) | refine SX.Lit TYok (h := ?_) | refine SX.Make TYok (h := ?_) | refine SX.App TYok (h := ?_) | (apply S_callo (m1); exact rfl; exact rfl; exact rfl; exact EvD.auto) | apply RG.nil | apply Lex.nil | apply Then.n | apply Then.r | apply Then.x | apply InBlock.n | apply InBlock.r | apply InBlock.hit | (apply InBlock.miss; exact rfl) | apply W.seq | apply W.region | apply W.block | apply W.skip | apply W.ret | apply W.exit | (apply S_isnil TYok; exact rfl; exact rfl; exact rfl; exact Ev.auto; intro bn hnil) | (apply RG.gT; exact rfl; exact rfl; (first | assumption | decide)) | (apply RG.gF; exact rfl; exact rfl; (first | assumption | decide | (rw [ne_eq, Bool.not_eq_true]; assumption) | (rw [ne_eq, Bool.not_eq_false]; assumption)); exact rfl) | (apply W.draw2 (id := 17) [0, 0, 0, 6, 15, 31, 63, 0, 0, 0, 768, 1792, 3968, 8064, 16383, 32767] [[9], [13], [11], [84, 85], [83, 86], [87], [88], [9], [13], [11], [91, 92], [93], [90, 94], [95], [89, 96], [97]] 16 [(83, 512), (84, 8192), (85, 2048), (86, 58028439341502200385896448), (87, 87042659012253300578844672), (88, 154742504910672534362390528), (89, 309485009821345068724781056), (90, 512), (91, 8192), (92, 2048), (93, 7427640235712281649394745344), (94, 9903520314283042199192993792), (95, 21044980667851464673285111808), (96, 39614081257132168796771975168), (97, 79847132533907027730993512448), (14, 158456325028528675187087900672)] mixed (by kernel_rfl) rfl rfl) | (apply W.draw2 (id := 18) [0, 0, 0, 4, 14, 30, 63, 0, 0, 0, 512, 1792, 3840, 8064, 127, 32767] [[14], [10], [11], [100], [99, 101], [102], [98, 103], [14], [10], [11], [107], [106, 108], [109], [105, 110], [104], [111]] 16 [(98, 16384), (99, 1024), (100, 2048), (101, 1267650600228229401496703205376), (102, 3169126500570573503741758013440), (103, 5070602400912917605986812821504), (104, 10458117451882892562347801444352), (105, 16384), (106, 1024), (107, 2048), (108, 162259276829213363391578010288128), (109, 405648192073033408478945025720320), (110, 649037107316853453566312041152512), (111, 1338639033841010247980518584877056), (15, 20282409603651670423947251286016), (16, 2596148429267413814265248164610048)] mixed (by kernel_rfl) rfl rfl) | (apply W.draw2 (id := 19) [0, 1, 3, 7, 15, 31, 63, 63, 63, 319, 959, 1983, 4095, 63, 8255, 63, 63, 63, 196671, 458815, 1015871, 2064447, 4186175, 8388607, 16777215, 33554431] [[15], [112], [113], [16, 114], [115, 114], [116, 114], [15, 117], [10, 117], [11, 117], [120, 117], [119, 121, 117], [122, 117], [118, 123, 117], [16, 117], [125, 117], [9, 117], [13, 117], [11, 117], [128, 129, 117], [130, 117], [127, 131, 117], [132, 117], [126, 133, 117], [124, 134, 117], [117, 135, 114], [114, 136]] 26 [(112, 32768), (113, 5192296858534827628530496329220096), (114, 10384593717069655257060992658440192), (115, 20769187434139310514121985316945920), (116, 62307562302417931542365955950641152), (117, 103845937170696552570609926584401920), (118, 166153499473114484112975882535075840), (119, 166153499473114484112975882535044096), (120, 166153499473114484112975882535045120), (121, 1495381495258030357016782942815387648), (122, 3489223488935404166372493533235904512), (123, 5483065482612777975728204123656421376), (124, 11132284464698670435569384129847885824), (125, 166153499473114484112975882535108608), (126, 42701449364590422417034801811506069504), (127, 166153499473114484112975882535043584), (128, 166153499473114484112975882535051264), (129, 166153499473114484112975882535045120), (130, 1021013254262288504874236798177839677440), (131, 1361295621183226968337611405609607888896), (132, 2892566272327450053922797139052564840448), (133, 5444684024234488529898106694790826426368), (134, 10974272486699738561177944065557059862528), (135, 21799505284372093430106548764480186089472), (136, 43556329888567030577106576849134182989824), (137, 87112306700947680785934413624517979013120)] mixed (by kernel_rfl) rfl rfl) | (refine W.condA (ht := fun hb => ?_) (hf := fun hb => ?_) <;> (try simp at hb) <;> (try (exfalso; omega))))
    · refine ⟨s * 2, by omega, ?_, by omega⟩
      exact Le.auto
    apply W.loopP (σ := Nat × List Int × List Int) 170 [] (fun (i, U, Q) => i ≤ M ∧ DivI (val a * s) (val V) V.length M U Q i) (fun (i, U, Q) => [(13, vI ((i : Int) - 1)), (8, vI s), (9, (True, .slc 56)), (10, (True, .pv (slI V))), (11, vI V.length), (12, (True, .slc 75))]) (fun (i, U, Q) => [(56, ⟨3, 1, U.map Lf.encI⟩), (75, ⟨3, 1, Q.map Lf.encI⟩)]) (fun (i, U, Q) => i) ((M, D ++ [0], List.replicate M 0))
    case hp => repeat (first | exact Pick.nil | apply Pick.cons rfl)
    case h0 =>
      refine ⟨⟨Nat.le_refl _, ⟨by omega, dD.dig.app (Dig.cons (by omega) Dig.nil), by simp, Dig.rep _, ?_, ?_⟩⟩, ?_⟩
      · rw [List.drop_append_of_le_length (by omega), val_app]
        have h3 := val_hi (dD.dig.drop M)
        rw [List.length_drop, show D.length - M = V.length - 1 by omega] at h3
        have h4 := dV.lo (fun h => by rw [h, List.length_nil] at hV2; omega)
        simp only [val]
        omega
      · rw [val_app, eD, List.drop_of_length_le (by simp)]
        simp [val]
      · exact Le.auto
    case round =>
      rintro ⟨i, U, Q⟩ ⟨g1, g2⟩
      dsimp only at g1 g2 ⊢
      have gU := g2.ulen
      have gQ := g2.qlen
      apply W.norm (by repeat (first | exact App.nil | apply App.cons))
      cases i with
      | succ k =>
        have e1 : ((k + 1 : Nat) : Int) - 1 = k := by omega
        have hk : k < M := by omega
        rw [e1]
        have hw := g2.win hk dV rfl hV2
        have hwin := g2.window hk hVhi
        have hsm := g2.small
        have hq0 : 0 ≤ val (U.drop k) / val V := Int.ediv_nonneg (val_lo (g2.udig.drop k)) (by omega)
        have hqB : val (U.drop k) / val V < 1048576 := by
          refine Int.ediv_lt_of_lt_mul hVpos ?_
          rw [val_drop (by omega)]
          have := g2.udig.nth (show k < U.length by omega)
          omega
        have hqm := Int.emod_add_mul_ediv (val (U.drop k)) (val V)
        have hqr := Int.emod_nonneg (val (U.drop k)) (show val V ≠ 0 by omega)
        have hqr2 := Int.emod_lt_of_pos (val (U.drop k)) hVpos
        rw [Int.mul_comm] at hqm
        generalize val (U.drop k) / val V = q at hq0 hqB hqm
        have hW1 : q * val V ≤ val (U.drop k) := by omega
        have hW2 : val (U.drop k) < q * val V + val V := by omega
        have ql := hw.lower hq0 hW1
        have d0 := g2.udig.nth (show k + V.length < U.length by omega)
        have d1 := g2.udig.nth (show k + V.length - 1 < U.length by omega)
        have d2 := hw.u2
        have d3 := hw.v1
        have d4 := hw.v2
        have i0 : ((k : Int) + (V.length : Int)).toNat = k + V.length := by omega
        have i1 : ((k : Int) + (V.length : Int) - 1).toNat = k + V.length - 1 := by omega
        have i2 : ((k : Int) + (V.length : Int) - 2).toNat = k + V.length - 2 := by omega
        have i3 : ((V.length : Int) - 1).toNat = V.length - 1 := by omega
        have i4 : ((V.length : Int) - 2).toNat = V.length - 2 := by omega
        have t0 : nth U ((k : Int) + (V.length : Int)).toNat = nth U (k + V.length) := by rw [i0]
        have t1 : nth U ((k : Int) + (V.length : Int) - 1).toNat = nth U (k + V.length - 1) := by rw [i1]
        have t2 : nth U ((k : Int) + (V.length : Int) - 2).toNat = nth U (k + V.length - 2) := by rw [i2]
        have t3 : nth V ((V.length : Int) - 1).toNat = nth V (V.length - 1) := by rw [i3]
        have t4 : nth V ((V.length : Int) - 2).toNat = nth V (V.length - 2) := by rw [i4]
        have hdm := Int.emod_add_mul_ediv (nth U (k + V.length) * 1048576 + nth U (k + V.length - 1)) (nth V (V.length - 1))
        have hd0 : 0 ≤ (nth U (k + V.length) * 1048576 + nth U (k + V.length - 1)) / nth V (V.length - 1) := Int.ediv_nonneg (by omega) (by omega)
        have hd1 : (nth U (k + V.length) * 1048576 + nth U (k + V.length - 1)) / nth V (V.length - 1) ≤ nth U (k + V.length) * 1048576 + nth U (k + V.length - 1) := Int.ediv_le_self _ (by omega)
        have hd2 : q ≤ (nth U (k + V.length) * 1048576 + nth U (k + V.length - 1)) / nth V (V.length - 1) := Int.le_ediv_of_mul_le d3.1 ql
        have hd3 := Int.emod_nonneg (nth U (k + V.length) * 1048576 + nth U (k + V.length - 1)) (show nth V (V.length - 1) ≠ 0 by omega)
        have hd4 := Int.emod_lt_of_pos (nth U (k + V.length) * 1048576 + nth U (k + V.length - 1)) d3.1
        repeat' (first | ((first | apply U_ | (apply Ug_; exact rfl; exact rfl) | (apply Ugq_; exact rfl; exact rfl) | apply Lex.u | (apply Lex.g; exact rfl; exact rfl) | (apply Lex.gq; exact rfl; exact rfl)); (first | (apply Q_or20; exact Ev.auto; exact Ev.auto; (intro hg; first | omega | (simp; omega) | (simp at hg; simp; omega))) | (apply Q_shl20; exact Ev.auto; (intro hg; first | omega | (simp; omega) | (simp at hg; simp; omega))) | (apply Q_shr20; exact Ev.auto) | (apply Q_and1; exact Ev.auto) | (apply Q_mask20; exact Ev.auto) | exact QX.Move TYok | exact QX.Asg TYok | exact QX.Ld TYok | exact QX.Bin TYok | exact QX.Pick TYok | exact QX.Len TYok | exact QX.Idx TYok | exact QX.Ext TYok | exact QX.Cut TYok); exact rfl) | refine SX.Store TYok (h := ?_) | refine SX.Lit TYok (h := ?_) | refine SX.Make TYok (h := ?_) | refine SX.App TYok (h := ?_) | apply RG.nil | apply Lex.nil | apply Then.n | apply Then.r | apply Then.x | apply InBlock.n | apply InBlock.r | apply InBlock.hit | (apply InBlock.miss; exact rfl) | apply W.seq | apply W.region | apply W.block | apply W.skip | apply W.ret | apply W.exit | (apply S_isnil TYok; exact rfl; exact rfl; exact rfl; exact Ev.auto; intro bn hnil) | (apply RG.gT; exact rfl; exact rfl; (first | assumption | decide)) | (apply RG.gF; exact rfl; exact rfl; (first | assumption | decide | (rw [ne_eq, Bool.not_eq_true]; assumption) | (rw [ne_eq, Bool.not_eq_false]; assumption)); exact rfl) | (apply W.draw2 (id := 17) [0, 0, 0, 6, 15, 31, 63, 0, 0, 0, 768, 1792, 3968, 8064, 16383, 32767] [[9], [13], [11], [84, 85], [83, 86], [87], [88], [9], [13], [11], [91, 92], [93], [90, 94], [95], [89, 96], [97]] 16 [(83, 512), (84, 8192), (85, 2048), (86, 58028439341502200385896448), (87, 87042659012253300578844672), (88, 154742504910672534362390528), (89, 309485009821345068724781056), (90, 512), (91, 8192), (92, 2048), (93, 7427640235712281649394745344), (94, 9903520314283042199192993792), (95, 21044980667851464673285111808), (96, 39614081257132168796771975168), (97, 79847132533907027730993512448), (14, 158456325028528675187087900672)] mixed (by kernel_rfl) rfl rfl) | (apply W.draw2 (id := 18) [0, 0, 0, 4, 14, 30, 63, 0, 0, 0, 512, 1792, 3840, 8064, 127, 32767] [[14], [10], [11], [100], [99, 101], [102], [98, 103], [14], [10], [11], [107], [106, 108], [109], [105, 110], [104], [111]] 16 [(98, 16384), (99, 1024), (100, 2048), (101, 1267650600228229401496703205376), (102, 3169126500570573503741758013440), (103, 5070602400912917605986812821504), (104, 10458117451882892562347801444352), (105, 16384), (106, 1024), (107, 2048), (108, 162259276829213363391578010288128), (109, 405648192073033408478945025720320), (110, 649037107316853453566312041152512), (111, 1338639033841010247980518584877056), (15, 20282409603651670423947251286016), (16, 2596148429267413814265248164610048)] mixed (by kernel_rfl) rfl rfl) | (apply W.draw2 (id := 19) [0, 1, 3, 7, 15, 31, 63, 63, 63, 319, 959, 1983, 4095, 63, 8255, 63, 63, 63, 196671, 458815, 1015871, 2064447, 4186175, 8388607, 16777215, 33554431] [[15], [112], [113], [16, 114], [115, 114], [116, 114], [15, 117], [10, 117], [11, 117], [120, 117], [119, 121, 117], [122, 117], [118, 123, 117], [16, 117], [125, 117], [9, 117], [13, 117], [11, 117], [128, 129, 117], [130, 117], [127, 131, 117], [132, 117], [126, 133, 117], [124, 134, 117], [117, 135, 114], [114, 136]] 26 [(112, 32768), (113, 5192296858534827628530496329220096), (114, 10384593717069655257060992658440192), (115, 20769187434139310514121985316945920), (116, 62307562302417931542365955950641152), (117, 103845937170696552570609926584401920), (118, 166153499473114484112975882535075840), (119, 166153499473114484112975882535044096), (120, 166153499473114484112975882535045120), (121, 1495381495258030357016782942815387648), (122, 3489223488935404166372493533235904512), (123, 5483065482612777975728204123656421376), (124, 11132284464698670435569384129847885824), (125, 166153499473114484112975882535108608), (126, 42701449364590422417034801811506069504), (127, 166153499473114484112975882535043584), (128, 166153499473114484112975882535051264), (129, 166153499473114484112975882535045120), (130, 1021013254262288504874236798177839677440), (131, 1361295621183226968337611405609607888896), (132, 2892566272327450053922797139052564840448), (133, 5444684024234488529898106694790826426368), (134, 10974272486699738561177944065557059862528), (135, 21799505284372093430106548764480186089472), (136, 43556329888567030577106576849134182989824), (137, 87112306700947680785934413624517979013120)] mixed (by kernel_rfl) rfl rfl) | (refine W.condA (ht := fun hb => ?_) (hf := fun hb => ?_) <;> (try simp at hb) <;> (try (exfalso; omega))))
        simp only [t0, t1, t3]
        generalize htop : nth U (k + V.length) * 1048576 + nth U (k + V.length - 1) = top at *
        generalize nth V (V.length - 1) = v1 at *
        apply W.loopP (σ := Int × Int) 170 [8, 10, 11, 13] (fun (g, r) => (g * v1 + r = top ∧ q ≤ g ∧ 0 ≤ r ∧ g ≤ 1099511627775)) (fun (g, r) => [(15, vI g), (16, vI r), (9, (True, .slc 56)), (12, (True, .slc 75))]) (fun (g, r) => [(56, ⟨3, 1, U.map Lf.encI⟩), (75, ⟨3, 1, Q.map Lf.encI⟩)]) (fun (g, r) => g.toNat) ((top / v1, top % v1))
        case hp => repeat (first | exact Pick.nil | apply Pick.cons rfl)
        case h0 =>
          refine ⟨⟨by rw [Int.mul_comm]; omega, hd2, hd3, by omega⟩, ?_⟩
          exact Le.auto
        case round =>
          rintro ⟨g, r⟩ ⟨f1, f2, f3, f4⟩
          dsimp only at f1 f2 f3 f4 ⊢
          have f5 : 0 ≤ g * v1 := Int.mul_nonneg (by omega) (by omega)
          have f6 : 0 ≤ g * nth V ((V.length : Int) - 2).toNat := Int.mul_nonneg (by omega) (by omega)
          have f7 : g * nth V ((V.length : Int) - 2).toNat ≤ g * 1048575 := Int.mul_le_mul_of_nonneg_left (by omega) (by omega)
          have hne : U.map Lf.encI ≠ [] := fun h => by
            have := congrArg List.length h
            simp at this; rw [this] at gU; simp at gU; omega
          apply W.norm (by repeat (first | exact App.nil | apply App.cons))
          have hs := settle_ok (U.take k) ((U.drop k).take (V.length + 1)) (U.drop (k + V.length + 1)) V g q ((g2.udig.drop k).take _) dV.dig
          have hU0 : U.take k ++ (U.drop k).take (V.length + 1) ++ U.drop (k + V.length + 1) = U := by
            rw [List.append_assoc, show k + V.length + 1 = k + (V.length + 1) by omega, ← List.drop_drop, List.take_append_drop, List.take_append_drop]
          have hl1 : ((U.drop k).take (V.length + 1)).length = V.length + 1 := by simp; omega
          have hl2 : (U.take k).length = k := by simp; omega
          rw [hU0, hl1, hl2, hwin] at hs
          have hs' := fun hg hq => hs rfl (by omega) hg hq (by omega)
          clear hs
          have hpart : ∀ bb cc : Nat, subV bb 1 ((k : Int)).toNat (((k : Int) + (V.length : Int) + 1).toNat - ((k : Int)).toNat) (cc - ((k : Int)).toNat) = subV bb 1 k (V.length + 1) (cc - k) := fun bb cc => by
            rw [show ((k : Int) + (V.length : Int) + 1).toNat - ((k : Int)).toNat = V.length + 1 by omega, show ((k : Int)).toNat = k by omega]
          have gS := g2.step hk hVhi hVpos ⟨hq0, hqB⟩ hW1 hW2
          have hlen : ((U.take k ++ digL (V.length + 1) (val (U.drop k) - q * val V) ++ U.drop (k + V.length + 1)).map Lf.encI).length = (U.map Lf.encI).length := by
            rw [List.length_map, List.length_map, gS.ulen, gU]
          generalize U.take k ++ digL (V.length + 1) (val (U.drop k) - q * val V) ++ U.drop (k + V.length + 1) = U' at hs' gS hlen
          have f9 : g * nth V ((V.length : Int) - 2).toNat = g * nth V (V.length - 2) := by rw [t4]
          have f8 : 0 ≤ g * nth V (V.length - 2) ∧ g * nth V (V.length - 2) ≤ g * 1048575 := by rw [← t4]; exact ⟨f6, f7⟩
          by_cases hcont : 1048576 ≤ g ∨ r < 1048576 ∧ r * 1048576 + nth U (k + V.length - 2) < g * nth V (V.length - 2)
          · have hdec : q ≤ g - 1 := by
              rcases hcont with h | h
              · omega
              · exact hw.dec hq0 hW1 f1 h.2
            repeat' (first | ((first | apply U_ | (apply Ug_; exact rfl; exact rfl) | (apply Ugq_; exact rfl; exact rfl) | apply Lex.u | (apply Lex.g; exact rfl; exact rfl) | (apply Lex.gq; exact rfl; exact rfl)); (first | (apply Q_or20; exact Ev.auto; exact Ev.auto; (intro hg; first | omega | (simp; omega) | (simp at hg; simp; omega))) | (apply Q_shl20; exact Ev.auto; (intro hg; first | omega | (simp; omega) | (simp at hg; simp; omega))) | (apply Q_shr20; exact Ev.auto) | (apply Q_and1; exact Ev.auto) | (apply Q_mask20; exact Ev.auto) | exact QX.Move TYok | exact QX.Asg TYok | exact QX.Ld TYok | exact QX.Bin TYok | exact QX.Pick TYok | exact QX.Len TYok | exact QX.Idx TYok | exact QX.Ext TYok | exact QX.Cut TYok); exact rfl) | refine SX.Store TYok (h := ?_) | refine SX.Lit TYok (h := ?_) | refine SX.Make TYok (h := ?_) | refine SX.App TYok (h := ?_) | apply RG.nil | apply Lex.nil | apply Then.n | apply Then.r | apply Then.x | apply InBlock.n | apply InBlock.r | apply InBlock.hit | (apply InBlock.miss; exact rfl) | apply W.seq | apply W.region | apply W.block | apply W.skip | apply W.ret | apply W.exit | (apply S_isnil TYok; exact rfl; exact rfl; exact rfl; exact Ev.auto; intro bn hnil) | (apply RG.gT; exact rfl; exact rfl; (first | assumption | decide)) | (apply RG.gF; exact rfl; exact rfl; (first | assumption | decide | (rw [ne_eq, Bool.not_eq_true]; assumption) | (rw [ne_eq, Bool.not_eq_false]; assumption)); exact rfl) | (apply W.draw2 (id := 17) [0, 0, 0, 6, 15, 31, 63, 0, 0, 0, 768, 1792, 3968, 8064, 16383, 32767] [[9], [13], [11], [84, 85], [83, 86], [87], [88], [9], [13], [11], [91, 92], [93], [90, 94], [95], [89, 96], [97]] 16 [(83, 512), (84, 8192), (85, 2048), (86, 58028439341502200385896448), (87, 87042659012253300578844672), (88, 154742504910672534362390528), (89, 309485009821345068724781056), (90, 512), (91, 8192), (92, 2048), (93, 7427640235712281649394745344), (94, 9903520314283042199192993792), (95, 21044980667851464673285111808), (96, 39614081257132168796771975168), (97, 79847132533907027730993512448), (14, 158456325028528675187087900672)] mixed (by kernel_rfl) rfl rfl) | (apply W.draw2 (id := 18) [0, 0, 0, 4, 14, 30, 63, 0, 0, 0, 512, 1792, 3840, 8064, 127, 32767] [[14], [10], [11], [100], [99, 101], [102], [98, 103], [14], [10], [11], [107], [106, 108], [109], [105, 110], [104], [111]] 16 [(98, 16384), (99, 1024), (100, 2048), (101, 1267650600228229401496703205376), (102, 3169126500570573503741758013440), (103, 5070602400912917605986812821504), (104, 10458117451882892562347801444352), (105, 16384), (106, 1024), (107, 2048), (108, 162259276829213363391578010288128), (109, 405648192073033408478945025720320), (110, 649037107316853453566312041152512), (111, 1338639033841010247980518584877056), (15, 20282409603651670423947251286016), (16, 2596148429267413814265248164610048)] mixed (by kernel_rfl) rfl rfl) | (apply W.draw2 (id := 19) [0, 1, 3, 7, 15, 31, 63, 63, 63, 319, 959, 1983, 4095, 63, 8255, 63, 63, 63, 196671, 458815, 1015871, 2064447, 4186175, 8388607, 16777215, 33554431] [[15], [112], [113], [16, 114], [115, 114], [116, 114], [15, 117], [10, 117], [11, 117], [120, 117], [119, 121, 117], [122, 117], [118, 123, 117], [16, 117], [125, 117], [9, 117], [13, 117], [11, 117], [128, 129, 117], [130, 117], [127, 131, 117], [132, 117], [126, 133, 117], [124, 134, 117], [117, 135, 114], [114, 136]] 26 [(112, 32768), (113, 5192296858534827628530496329220096), (114, 10384593717069655257060992658440192), (115, 20769187434139310514121985316945920), (116, 62307562302417931542365955950641152), (117, 103845937170696552570609926584401920), (118, 166153499473114484112975882535075840), (119, 166153499473114484112975882535044096), (120, 166153499473114484112975882535045120), (121, 1495381495258030357016782942815387648), (122, 3489223488935404166372493533235904512), (123, 5483065482612777975728204123656421376), (124, 11132284464698670435569384129847885824), (125, 166153499473114484112975882535108608), (126, 42701449364590422417034801811506069504), (127, 166153499473114484112975882535043584), (128, 166153499473114484112975882535051264), (129, 166153499473114484112975882535045120), (130, 1021013254262288504874236798177839677440), (131, 1361295621183226968337611405609607888896), (132, 2892566272327450053922797139052564840448), (133, 5444684024234488529898106694790826426368), (134, 10974272486699738561177944065557059862528), (135, 21799505284372093430106548764480186089472), (136, 43556329888567030577106576849134182989824), (137, 87112306700947680785934413624517979013120)] mixed (by kernel_rfl) rfl rfl) | (refine W.condA (ht := fun hb => ?_) (hf := fun hb => ?_) <;> (try simp at hb) <;> (try (exfalso; omega))))
            · refine ⟨(g - 1, r + v1), ⟨?_, by omega, by omega, by omega⟩, ?_, by (try simp only); omega⟩
              · rw [Int.sub_mul]; omega
              · simp only [t3]
                exact Le.auto
            all_goals (exfalso; omega)
          · have hup : g ≤ q + 1 := by
              refine hw.upper hq0 hW2 f1 (by omega) ?_
              by_cases h : r < 1048576
              · omega
              · omega
            have hs2 := hs' ⟨by omega, by omega⟩ ⟨f2, hup⟩
            repeat' (first | (apply W.region (id := 22); refine RG.place (t := 9) (n := 56) rfl rfl (fun bb cc => ?_) (fun hnil => (hne hnil).elim)) | ((first | apply U_ | (apply Ug_; exact rfl; exact rfl) | (apply Ugq_; exact rfl; exact rfl) | apply Lex.u | (apply Lex.g; exact rfl; exact rfl) | (apply Lex.gq; exact rfl; exact rfl)); (first | (apply Q_or20; exact Ev.auto; exact Ev.auto; (intro hg; first | omega | (simp; omega) | (simp at hg; simp; omega))) | (apply Q_shl20; exact Ev.auto; (intro hg; first | omega | (simp; omega) | (simp at hg; simp; omega))) | (apply Q_shr20; exact Ev.auto) | (apply Q_and1; exact Ev.auto) | (apply Q_mask20; exact Ev.auto) | exact QX.Move TYok | exact QX.Asg TYok | exact QX.Ld TYok | exact QX.Bin TYok | exact QX.Pick TYok | exact QX.Len TYok | exact QX.Idx TYok | exact QX.Ext TYok | exact QX.Cut TYok | (apply Q_partV TYok; exact Ev.auto; exact Ev.auto; exact Ev.auto; exact rfl; exact rfl; exact rfl; exact rfl; (intro hg; simp; omega))); exact rfl) | refine SX.Store TYok (h := ?_) | refine SX.Lit TYok (h := ?_) | refine SX.Make TYok (h := ?_) | refine SX.App TYok (h := ?_) | (apply S_callsub hs2; exact Ev.auto; exact hpart _ _; exact rfl; exact rfl; exact EvD.auto; exact hlen) | apply RG.nil | apply Lex.nil | apply Then.n | apply Then.r | apply Then.x | apply InBlock.n | apply InBlock.r | apply InBlock.hit | (apply InBlock.miss; exact rfl) | apply W.seq | apply W.region | apply W.block | apply W.skip | apply W.ret | apply W.exit | (apply S_isnil TYok; exact rfl; exact rfl; exact rfl; exact Ev.auto; intro bn hnil) | (apply RG.gT; exact rfl; exact rfl; (first | assumption | decide)) | (apply RG.gF; exact rfl; exact rfl; (first | assumption | decide | (rw [ne_eq, Bool.not_eq_true]; assumption) | (rw [ne_eq, Bool.not_eq_false]; assumption)); exact rfl) | (apply W.draw2 (id := 17) [0, 0, 0, 6, 15, 31, 63, 0, 0, 0, 768, 1792, 3968, 8064, 16383, 32767] [[9], [13], [11], [84, 85], [83, 86], [87], [88], [9], [13], [11], [91, 92], [93], [90, 94], [95], [89, 96], [97]] 16 [(83, 512), (84, 8192), (85, 2048), (86, 58028439341502200385896448), (87, 87042659012253300578844672), (88, 154742504910672534362390528), (89, 309485009821345068724781056), (90, 512), (91, 8192), (92, 2048), (93, 7427640235712281649394745344), (94, 9903520314283042199192993792), (95, 21044980667851464673285111808), (96, 39614081257132168796771975168), (97, 79847132533907027730993512448), (14, 158456325028528675187087900672)] mixed (by kernel_rfl) rfl rfl) | (apply W.draw2 (id := 18) [0, 0, 0, 4, 14, 30, 63, 0, 0, 0, 512, 1792, 3840, 8064, 127, 32767] [[14], [10], [11], [100], [99, 101], [102], [98, 103], [14], [10], [11], [107], [106, 108], [109], [105, 110], [104], [111]] 16 [(98, 16384), (99, 1024), (100, 2048), (101, 1267650600228229401496703205376), (102, 3169126500570573503741758013440), (103, 5070602400912917605986812821504), (104, 10458117451882892562347801444352), (105, 16384), (106, 1024), (107, 2048), (108, 162259276829213363391578010288128), (109, 405648192073033408478945025720320), (110, 649037107316853453566312041152512), (111, 1338639033841010247980518584877056), (15, 20282409603651670423947251286016), (16, 2596148429267413814265248164610048)] mixed (by kernel_rfl) rfl rfl) | (apply W.draw2 (id := 19) [0, 1, 3, 7, 15, 31, 63, 63, 63, 319, 959, 1983, 4095, 63, 8255, 63, 63, 63, 196671, 458815, 1015871, 2064447, 4186175, 8388607, 16777215, 33554431] [[15], [112], [113], [16, 114], [115, 114], [116, 114], [15, 117], [10, 117], [11, 117], [120, 117], [119, 121, 117], [122, 117], [118, 123, 117], [16, 117], [125, 117], [9, 117], [13, 117], [11, 117], [128, 129, 117], [130, 117], [127, 131, 117], [132, 117], [126, 133, 117], [124, 134, 117], [117, 135, 114], [114, 136]] 26 [(112, 32768), (113, 5192296858534827628530496329220096), (114, 10384593717069655257060992658440192), (115, 20769187434139310514121985316945920), (116, 62307562302417931542365955950641152), (117, 103845937170696552570609926584401920), (118, 166153499473114484112975882535075840), (119, 166153499473114484112975882535044096), (120, 166153499473114484112975882535045120), (121, 1495381495258030357016782942815387648), (122, 3489223488935404166372493533235904512), (123, 5483065482612777975728204123656421376), (124, 11132284464698670435569384129847885824), (125, 166153499473114484112975882535108608), (126, 42701449364590422417034801811506069504), (127, 166153499473114484112975882535043584), (128, 166153499473114484112975882535051264), (129, 166153499473114484112975882535045120), (130, 1021013254262288504874236798177839677440), (131, 1361295621183226968337611405609607888896), (132, 2892566272327450053922797139052564840448), (133, 5444684024234488529898106694790826426368), (134, 10974272486699738561177944065557059862528), (135, 21799505284372093430106548764480186089472), (136, 43556329888567030577106576849134182989824), (137, 87112306700947680785934413624517979013120)] mixed (by kernel_rfl) rfl rfl) | (refine W.condA (ht := fun hb => ?_) (hf := fun hb => ?_) <;> (try simp at hb) <;> (try (exfalso; omega))))
            refine ⟨(k, U', Q.set k q), ⟨by (try simp only); omega, gS⟩, Le.trans (Le.unplace (t := 9) (n := 56) (b := bb) (c := cc) rfl) ?_, by (try simp only); omega⟩
            exact Le.auto
      | zero =>
        have hsm := g2.small
        have heq := g2.eq
        rw [List.drop_zero] at hsm heq
        simp only [pw, Int.one_mul] at heq
        have hU0 := val_lo g2.udig
        have t1 : ACalls Tryz.prog 50 [slI U] (.pv (slI (digs (val U)))) := by
          rw [← trim_digs g2.udig]; exact trim_ok U (by omega)
        have t2 : ACalls Tryz.prog 50 [slI Q] (.pv (slI (digs (val Q)))) := by
          rw [← trim_digs g2.qdig]; exact trim_ok Q (by omega)
        have lU : (digs (val U)).length ≤ 1000000 := by
          have := trimL_len U
          rw [trim_digs g2.udig] at this; omega
        have t3 := short_ok (digs (val U)) s (digs_norm _).dig (by omega) lU
        rw [val_digs hU0] at t3
        have hb0 : 0 < val b := nb.pos (fun h => by rw [h, List.length_nil] at hb2; omega)
        have hmr := Int.emod_add_mul_ediv (val a) (val b)
        have hr0 := Int.emod_nonneg (val a) (show val b ≠ 0 by omega)
        have hr1 := Int.emod_lt_of_pos (val a) hb0
        have e1 : val Q = val a / val b := by
          have h3 : val a * s / (val b * s) = val a / val b := Int.mul_ediv_mul_of_pos_left _ _ (by omega)
          rw [← h3, heq, ← eV, Int.add_mul_ediv_left _ _ (by omega), Int.ediv_eq_zero_of_lt hU0 hsm]; omega
        have e2 : val U = (val a % val b) * s := by
          rw [e1, eV] at heq
          have h3 : val a * s = (val a % val b + val b * (val a / val b)) * s := by rw [hmr]
          generalize val a % val b = x at *
          generalize val a / val b = y at *
          have h4 : (x + val b * y) * s = x * s + val b * s * y := by grind
          omega
        have e3 : val U / s = val a % val b := by rw [e2, Int.mul_ediv_cancel _ (by omega)]
        rw [e3] at t3
        rw [e1] at t2
        generalize val U % s = rr at t3
        generalize val a / val b = y at t2 ⊢
        generalize val a % val b = x at t3 ⊢
        generalize digs (val U) = W' at t1 t3
        repeat' (first | (refine W.weaken Le.freeze ?_; apply W.region (id := 23)) | ((first | apply U_ | (apply Ug_; exact rfl; exact rfl) | (apply Ugq_; exact rfl; exact rfl) | apply Lex.u | (apply Lex.g; exact rfl; exact rfl) | (apply Lex.gq; exact rfl; exact rfl)); (first | (apply Q_or20; exact Ev.auto; exact Ev.auto; (intro hg; first | omega | (simp; omega) | (simp at hg; simp; omega))) | (apply Q_shl20; exact Ev.auto; (intro hg; first | omega | (simp; omega) | (simp at hg; simp; omega))) | (apply Q_shr20; exact Ev.auto) | (apply Q_and1; exact Ev.auto) | (apply Q_mask20; exact Ev.auto) | exact QX.Move TYok | exact QX.Asg TYok | exact QX.Ld TYok | exact QX.Bin TYok | exact QX.Pick TYok | exact QX.Len TYok | exact QX.Idx TYok | exact QX.Ext TYok | exact QX.Cut TYok | (apply Q_calld (t1); exact EvD.auto) | (apply Q_calld (t2); exact EvD.auto) | (apply Q_calld (t3); exact EvD.auto)); exact rfl) | refine SX.Store TYok (h := ?_) | refine SX.Lit TYok (h := ?_) | refine SX.Make TYok (h := ?_) | refine SX.App TYok (h := ?_) | apply RG.nil | apply Lex.nil | apply Then.n | apply Then.r | apply Then.x | apply InBlock.n | apply InBlock.r | apply InBlock.hit | (apply InBlock.miss; exact rfl) | apply W.seq | apply W.region | apply W.block | apply W.skip | apply W.ret | apply W.exit | (apply S_isnil TYok; exact rfl; exact rfl; exact rfl; exact Ev.auto; intro bn hnil) | (apply RG.gT; exact rfl; exact rfl; (first | assumption | decide)) | (apply RG.gF; exact rfl; exact rfl; (first | assumption | decide | (rw [ne_eq, Bool.not_eq_true]; assumption) | (rw [ne_eq, Bool.not_eq_false]; assumption)); exact rfl) | (apply W.draw2 (id := 17) [0, 0, 0, 6, 15, 31, 63, 0, 0, 0, 768, 1792, 3968, 8064, 16383, 32767] [[9], [13], [11], [84, 85], [83, 86], [87], [88], [9], [13], [11], [91, 92], [93], [90, 94], [95], [89, 96], [97]] 16 [(83, 512), (84, 8192), (85, 2048), (86, 58028439341502200385896448), (87, 87042659012253300578844672), (88, 154742504910672534362390528), (89, 309485009821345068724781056), (90, 512), (91, 8192), (92, 2048), (93, 7427640235712281649394745344), (94, 9903520314283042199192993792), (95, 21044980667851464673285111808), (96, 39614081257132168796771975168), (97, 79847132533907027730993512448), (14, 158456325028528675187087900672)] mixed (by kernel_rfl) rfl rfl) | (apply W.draw2 (id := 18) [0, 0, 0, 4, 14, 30, 63, 0, 0, 0, 512, 1792, 3840, 8064, 127, 32767] [[14], [10], [11], [100], [99, 101], [102], [98, 103], [14], [10], [11], [107], [106, 108], [109], [105, 110], [104], [111]] 16 [(98, 16384), (99, 1024), (100, 2048), (101, 1267650600228229401496703205376), (102, 3169126500570573503741758013440), (103, 5070602400912917605986812821504), (104, 10458117451882892562347801444352), (105, 16384), (106, 1024), (107, 2048), (108, 162259276829213363391578010288128), (109, 405648192073033408478945025720320), (110, 649037107316853453566312041152512), (111, 1338639033841010247980518584877056), (15, 20282409603651670423947251286016), (16, 2596148429267413814265248164610048)] mixed (by kernel_rfl) rfl rfl) | (apply W.draw2 (id := 19) [0, 1, 3, 7, 15, 31, 63, 63, 63, 319, 959, 1983, 4095, 63, 8255, 63, 63, 63, 196671, 458815, 1015871, 2064447, 4186175, 8388607, 16777215, 33554431] [[15], [112], [113], [16, 114], [115, 114], [116, 114], [15, 117], [10, 117], [11, 117], [120, 117], [119, 121, 117], [122, 117], [118, 123, 117], [16, 117], [125, 117], [9, 117], [13, 117], [11, 117], [128, 129, 117], [130, 117], [127, 131, 117], [132, 117], [126, 133, 117], [124, 134, 117], [117, 135, 114], [114, 136]] 26 [(112, 32768), (113, 5192296858534827628530496329220096), (114, 10384593717069655257060992658440192), (115, 20769187434139310514121985316945920), (116, 62307562302417931542365955950641152), (117, 103845937170696552570609926584401920), (118, 166153499473114484112975882535075840), (119, 166153499473114484112975882535044096), (120, 166153499473114484112975882535045120), (121, 1495381495258030357016782942815387648), (122, 3489223488935404166372493533235904512), (123, 5483065482612777975728204123656421376), (124, 11132284464698670435569384129847885824), (125, 166153499473114484112975882535108608), (126, 42701449364590422417034801811506069504), (127, 166153499473114484112975882535043584), (128, 166153499473114484112975882535051264), (129, 166153499473114484112975882535045120), (130, 1021013254262288504874236798177839677440), (131, 1361295621183226968337611405609607888896), (132, 2892566272327450053922797139052564840448), (133, 5444684024234488529898106694790826426368), (134, 10974272486699738561177944065557059862528), (135, 21799505284372093430106548764480186089472), (136, 43556329888567030577106576849134182989824), (137, 87112306700947680785934413624517979013120)] mixed (by kernel_rfl) rfl rfl) | (refine W.condA (ht := fun hb => ?_) (hf := fun hb => ?_) <;> (try simp at hb) <;> (try (exfalso; omega))))
        exact Fin.ret ResL.auto
theorem div_ok (a b : List Int) (na : Norm a) (nb : Norm b) (hl : a.length ≤ 100000) (hl' : b.length ≤ 100000) (hb : b ≠ []) : ACalls Tryz.prog 46 [slI a, slI b] (.tup [slI (digs (val a / val b)), slI (digs (val a % val b))]) := by
  by_cases h : val a < val b
  · exact div_lt a b na nb hl hl' h
  · have := List.length_pos_iff.2 hb
    by_cases h2 : b.length = 1
    · exact div_one a b na nb hl h2 (by omega)
    · exact div_long a b na nb hl (by omega) (by omega)
end Go.Proofs.YtldgkgfkdipdeaaGreatDoor
end
section
set_option linter.unusedVariables false
set_option linter.unusedSimpArgs false
set_option maxHeartbeats 8000000
namespace Go.Proofs.YtldgkgfkdipdeaaGreatDoor
open Lf Go
attribute [local irreducible] PureOp EffOp Ev RG W Then InBlock Lf.Fin nth App InitE Pick SubE EvL EvD EvP EvR ResL Lf.Lex SubR SubBR FinO FinM ResM ResD FinS val pw digs trimL
theorem right_ok (s : Int) (l : List Int) (hl : l.length ≤ 1000000) : ACalls Tryz.prog 21 [aB s l] (.pv (cB (rightB s l))) := by
  refine ACalls.of_W (qs := [cB (rightB s l)]) [2] 49 Tryz.func21 (by kernel_rfl) rfl rfl rfl fun G => ?_
  refine W.initA (hw := ?_)
  repeat' (first | ((first | apply U_ | (apply Ug_; exact rfl; exact rfl) | (apply Ugq_; exact rfl; exact rfl)); (first | exact QX.Move TYok | exact QX.Asg TYok | exact QX.Fld TYok | exact QX.Ld TYok | exact QX.Bin TYok | exact QX.Pick TYok | exact QX.Len TYok | exact QX.Idx TYok); exact rfl) | refine SX.Box TYok (h := ?_) | apply RG.nil | apply Lex.nil | apply Then.n | apply Then.r | apply Then.x | apply InBlock.n | apply InBlock.r | apply InBlock.hit | (apply InBlock.miss; exact rfl) | apply W.seq | apply W.region | apply W.block | apply W.skip | apply W.ret | apply W.exit | (apply S_isnil TYok; exact rfl; exact rfl; exact rfl; exact Ev.auto; intro bn hnil) | (apply RG.gT; exact rfl; exact rfl; (first | assumption | decide)) | (apply RG.gF; exact rfl; exact rfl; (first | assumption | decide | (rw [ne_eq, Bool.not_eq_true]; assumption) | (rw [ne_eq, Bool.not_eq_false]; assumption)); exact rfl) | (refine W.condA (ht := fun hb => ?_) (hf := fun hb => ?_) <;> (try simp at hb) <;> (try (exfalso; omega))))
  apply W.loopP (σ := Nat) 49 [1, 3, 10, 11] (fun k => k ≤ l.length ∧ l.all digB = (l.drop k).all digB) (fun k => [(12, vI k)]) (fun _ => [(1, ⟨24, 2, [[.int .i64 s, .sl (l.map Lf.encI)]]⟩)]) (fun k => l.length - k) (0)
  case hp => repeat (first | exact Pick.nil | apply Pick.cons rfl)
  case h0 =>
    refine ⟨by simp, ?_⟩
    exact Le.auto
  case round =>
    rintro k ⟨g1, g2⟩
    apply W.norm (by repeat (first | exact App.nil | apply App.cons))
    by_cases hk : k < l.length
    · have e : l.all digB = (digB (nth l k) && (l.drop (k + 1)).all digB) := by rw [g2, drop_nth hk, List.all_cons]
      repeat' (first | ((first | apply U_ | (apply Ug_; exact rfl; exact rfl) | (apply Ugq_; exact rfl; exact rfl)); (first | exact QX.Move TYok | exact QX.Asg TYok | exact QX.Fld TYok | exact QX.Ld TYok | exact QX.Bin TYok | exact QX.Pick TYok | exact QX.Len TYok | exact QX.Idx TYok); exact rfl) | refine SX.Box TYok (h := ?_) | apply RG.nil | apply Lex.nil | apply Then.n | apply Then.r | apply Then.x | apply InBlock.n | apply InBlock.r | apply InBlock.hit | (apply InBlock.miss; exact rfl) | apply W.seq | apply W.region | apply W.block | apply W.skip | apply W.ret | apply W.exit | (apply S_isnil TYok; exact rfl; exact rfl; exact rfl; exact Ev.auto; intro bn hnil) | (apply RG.gT; exact rfl; exact rfl; (first | assumption | decide)) | (apply RG.gF; exact rfl; exact rfl; (first | assumption | decide | (rw [ne_eq, Bool.not_eq_true]; assumption) | (rw [ne_eq, Bool.not_eq_false]; assumption)); exact rfl) | (refine W.condA (ht := fun hb => ?_) (hf := fun hb => ?_) <;> (try simp at hb) <;> (try (exfalso; omega))))
      · have e2 : rightB s l = false := by
          rw [rightB, e, show digB (nth l k) = false by
            simp only [digB, Bool.and_eq_false_iff, decide_eq_false_iff_not]; omega]; rfl
        rw [e2]
        exact Fin.ret ResL.auto
      · refine ⟨k + 1, ⟨by omega, ?_⟩, ?_, by omega⟩
        · rw [e, show digB (nth l k) = true by
            simp only [digB, Bool.and_eq_true, decide_eq_true_iff]; omega]; rfl
        · exact Le.auto
    · obtain rfl : k = l.length := by omega
      have e : l.all digB = true := by rw [g2, List.drop_length]; rfl
      by_cases h0 : l.length = 0
      · have e2 : rightB s l = decide (s = 0) := by rw [rightB, e, if_pos h0]; rfl
        repeat' (first | ((first | apply U_ | (apply Ug_; exact rfl; exact rfl) | (apply Ugq_; exact rfl; exact rfl)); (first | exact QX.Move TYok | exact QX.Asg TYok | exact QX.Fld TYok | exact QX.Ld TYok | exact QX.Bin TYok | exact QX.Pick TYok | exact QX.Len TYok | exact QX.Idx TYok); exact rfl) | refine SX.Box TYok (h := ?_) | apply RG.nil | apply Lex.nil | apply Then.n | apply Then.r | apply Then.x | apply InBlock.n | apply InBlock.r | apply InBlock.hit | (apply InBlock.miss; exact rfl) | apply W.seq | apply W.region | apply W.block | apply W.skip | apply W.ret | apply W.exit | (apply S_isnil TYok; exact rfl; exact rfl; exact rfl; exact Ev.auto; intro bn hnil) | (apply RG.gT; exact rfl; exact rfl; (first | assumption | decide)) | (apply RG.gF; exact rfl; exact rfl; (first | assumption | decide | (rw [ne_eq, Bool.not_eq_true]; assumption) | (rw [ne_eq, Bool.not_eq_false]; assumption)); exact rfl) | (refine W.condA (ht := fun hb => ?_) (hf := fun hb => ?_) <;> (try simp at hb) <;> (try (exfalso; omega))))
        · rw [e2]
          exact Fin.ret ResL.auto
        · exact absurd (List.length_eq_zero_iff.1 h0) hb
      · have e2 : rightB s l = ((decide (s = 1) || decide (s = -1)) && decide ((l.length : Int) ≤ 60) && !decide (nth l ((l.length : Int) - 1).toNat = 0)) := by
          rw [rightB, e, if_neg h0, show ((l.length : Int) - 1).toNat = l.length - 1 by omega, show decide (l.length ≤ 60) = decide ((l.length : Int) ≤ 60) from decide_eq_decide.2 (by omega)]; rfl
        repeat' (first | ((first | apply U_ | (apply Ug_; exact rfl; exact rfl) | (apply Ugq_; exact rfl; exact rfl)); (first | exact QX.Move TYok | exact QX.Asg TYok | exact QX.Fld TYok | exact QX.Ld TYok | exact QX.Bin TYok | exact QX.Pick TYok | exact QX.Len TYok | exact QX.Idx TYok); exact rfl) | refine SX.Box TYok (h := ?_) | apply RG.nil | apply Lex.nil | apply Then.n | apply Then.r | apply Then.x | apply InBlock.n | apply InBlock.r | apply InBlock.hit | (apply InBlock.miss; exact rfl) | apply W.seq | apply W.region | apply W.block | apply W.skip | apply W.ret | apply W.exit | (apply S_isnil TYok; exact rfl; exact rfl; exact rfl; exact Ev.auto; intro bn hnil) | (apply RG.gT; exact rfl; exact rfl; (first | assumption | decide)) | (apply RG.gF; exact rfl; exact rfl; (first | assumption | decide | (rw [ne_eq, Bool.not_eq_true]; assumption) | (rw [ne_eq, Bool.not_eq_false]; assumption)); exact rfl) | (refine W.condA (ht := fun hb => ?_) (hf := fun hb => ?_) <;> (try simp at hb) <;> (try (exfalso; omega))))
        · exact absurd (by rw [hb]; rfl) h0
        · rw [e2]
          exact Fin.ret ResL.auto
theorem right_yes {x : Int} (h : okZ x) : ACalls Tryz.prog 21 [zB x] (.pv (cB true)) := by
  rw [← num_right h]; exact right_ok _ _ (by have := num_len h; omega)
theorem signed_ok (s : Int) (l : List Int) (dl : Dig l) (hl : l.length ≤ 1000000) (z : Int) (hs : s = 1 ∨ s = -1 ∨ val l = 0) (hz : z = s * val l) : ACalls Tryz.prog 34 [cI s, slI l] (.pv (zB z)) := by
  obtain ⟨e1, e2⟩ := num_of (val_lo dl) hs hz
  have h1 := trim_ok l (by omega)
  rw [trim_digs dl] at h1
  rw [show zB z = aB (if val l = 0 then 0 else s) (digs (val l)) by rw [zB, e1, e2]]
  have h3 : (digs (val l)).length = 0 ↔ val l = 0 := by rw [List.length_eq_zero_iff, digs_nil (val_lo dl)]
  have h4 : (digs (val l)).length ≤ l.length := by rw [← trim_digs dl]; exact trimL_len l
  generalize digs (val l) = D at *
  refine ACalls.of_M TYok (qs := [aB (if val l = 0 then 0 else s) D]) [.cell 4 24] 14 Tryz.func34 (by kernel_rfl) rfl rfl rfl fun G => ?_
  refine W.initA (hw := ?_)
  repeat' (first | ((first | apply U_); (first | exact QX.Move TYok | exact QX.Asg TYok | exact QX.Bin TYok | exact QX.Len TYok | exact QX.Build TYok | (apply Q_calld (h1); exact EvD.auto)); exact rfl) | refine SX.Alloc TYok (h := ?_) | refine SX.Store TYok (h := ?_) | apply RG.nil | apply Lex.nil | apply Then.n | apply Then.r | apply Then.x | apply InBlock.n | apply InBlock.r | apply InBlock.hit | (apply InBlock.miss; exact rfl) | apply W.seq | apply W.region | apply W.block | apply W.skip | apply W.ret | apply W.exit | (apply S_isnil TYok; exact rfl; exact rfl; exact rfl; exact Ev.auto; intro bn hnil) | (refine W.condA (ht := fun hb => ?_) (hf := fun hb => ?_) <;> (try simp at hb) <;> (try (exfalso; omega))))
  · rw [hb, if_pos (h3.1 (by rw [hb]; rfl))]
    exact FinM.ret (ResM.cell rfl rfl rfl rfl zeroSub ResM.nil)
  · rw [if_neg (fun h => hb (List.length_eq_zero_iff.1 (h3.2 h)))]
    exact FinM.ret ResM.auto
/-- what is not too great -/
def fullZ (z : Int) : Int := if mag z < pw 60 then z else 0
def fullE (z : Int) : Int := if mag z < pw 60 then 0 else 6
theorem checked_yes (z : Int) (hl : (digs (mag z)).length ≤ 1000000) : ACalls Tryz.prog 33 [cB true, zB z] (.tup [zB (fullZ z), cI (fullE z)]) := by
  have h1 : (digs (mag z)).length ≤ 60 ↔ mag z < pw 60 := digs_len (mag_nn z)
  by_cases h : mag z < pw 60
  · rw [fullZ, fullE, if_pos h, if_pos h]
    have h2 := h1.2 h
    refine ACalls.of_M TYok (qs := [zB z, cI 0]) [.cell 4 24, .tmp 5] 17 Tryz.func33 (by kernel_rfl) rfl rfl rfl fun G => ?_
    refine W.initA (hw := ?_)
    repeat' (first | ((first | apply U_); (first | exact QX.Move TYok | exact QX.Asg TYok | exact QX.Fld TYok | exact QX.Ld TYok | exact QX.Bin TYok | exact QX.Un TYok | exact QX.Len TYok | exact QX.Build TYok); exact rfl) | refine SX.Alloc TYok (h := ?_) | refine SX.Store TYok (h := ?_) | refine SX.Box TYok (h := ?_) | apply RG.nil | apply Lex.nil | apply Then.n | apply Then.r | apply Then.x | apply InBlock.n | apply InBlock.r | apply InBlock.hit | (apply InBlock.miss; exact rfl) | apply W.seq | apply W.region | apply W.block | apply W.skip | apply W.ret | apply W.exit | (refine W.condA (ht := fun hb => ?_) (hf := fun hb => ?_) <;> (try simp at hb) <;> (try (exfalso; omega))))
    exact FinM.ret ResM.auto
  · rw [fullZ, fullE, if_neg h, if_neg h]
    have h2 : ¬ (digs (mag z)).length ≤ 60 := fun q => h (h1.1 q)
    refine ACalls.of_M TYok (qs := [zB 0, cI 6]) [.cell 4 24, .tmp 5] 17 Tryz.func33 (by kernel_rfl) rfl rfl rfl fun G => ?_
    refine W.initA (hw := ?_)
    repeat' (first | ((first | apply U_); (first | exact QX.Move TYok | exact QX.Asg TYok | exact QX.Fld TYok | exact QX.Ld TYok | exact QX.Bin TYok | exact QX.Un TYok | exact QX.Len TYok | exact QX.Build TYok); exact rfl) | refine SX.Alloc TYok (h := ?_) | refine SX.Store TYok (h := ?_) | refine SX.Box TYok (h := ?_) | apply RG.nil | apply Lex.nil | apply Then.n | apply Then.r | apply Then.x | apply InBlock.n | apply InBlock.r | apply InBlock.hit | (apply InBlock.miss; exact rfl) | apply W.seq | apply W.region | apply W.block | apply W.skip | apply W.ret | apply W.exit | (refine W.condA (ht := fun hb => ?_) (hf := fun hb => ?_) <;> (try simp at hb) <;> (try (exfalso; omega))))
    exact FinM.ret (ResM.cell rfl rfl rfl rfl zeroSubZ (ResM.tmp rfl rfl PSub.rfl' ResM.nil))
theorem checked_no : ACalls Tryz.prog 33 [cB false, .agg [.int .i64 0, .slnil]] (.tup [zB 0, cI 1]) := by
  refine ACalls.of_M TYok (qs := [zB 0, cI 1]) [.cell 4 24, .tmp 5] 17 Tryz.func33 (by kernel_rfl) rfl rfl rfl fun G => ?_
  refine W.initA (hw := ?_)
  repeat' (first | ((first | apply U_); (first | exact QX.Move TYok | exact QX.Asg TYok | exact QX.Fld TYok | exact QX.Ld TYok | exact QX.Bin TYok | exact QX.Un TYok | exact QX.Len TYok | exact QX.Build TYok); exact rfl) | refine SX.Alloc TYok (h := ?_) | refine SX.Store TYok (h := ?_) | refine SX.Box TYok (h := ?_) | apply RG.nil | apply Lex.nil | apply Then.n | apply Then.r | apply Then.x | apply InBlock.n | apply InBlock.r | apply InBlock.hit | (apply InBlock.miss; exact rfl) | apply W.seq | apply W.region | apply W.block | apply W.skip | apply W.ret | apply W.exit | (refine W.condA (ht := fun hb => ?_) (hf := fun hb => ?_) <;> (try simp at hb) <;> (try (exfalso; omega))))
  exact FinM.ret (ResM.cell rfl rfl rfl rfl zeroSubZ (ResM.tmp rfl rfl PSub.rfl' ResM.nil))
theorem orTwo_ok (x y : Int) : ACalls Tryz.prog 35 [slI [x, y]] (.pv (cI (if x = 0 then y else x))) := by
  have e0 : nth [x, y] 0 = x := by simp [nth]
  have e1 : nth [x, y] 1 = y := by simp [nth]
  have hl : [x, y].length = 2 := rfl
  generalize [x, y] = l at *
  refine ACalls.of_W (qs := [cI (if x = 0 then y else x)]) [2] 18 Tryz.func35 (by kernel_rfl) rfl rfl rfl fun G => ?_
  refine W.initA (hw := ?_)
  repeat' (first | ((first | apply U_); (first | exact QX.Move TYok | exact QX.Asg TYok | exact QX.Ld TYok | exact QX.Bin TYok | exact QX.Len TYok | exact QX.Idx TYok); exact rfl) | apply RG.nil | apply Lex.nil | apply Then.n | apply Then.r | apply Then.x | apply InBlock.n | apply InBlock.r | apply InBlock.hit | (apply InBlock.miss; exact rfl) | apply W.seq | apply W.region | apply W.block | apply W.skip | apply W.ret | apply W.exit | (refine W.condA (ht := fun hb => ?_) (hf := fun hb => ?_) <;> (try simp at hb) <;> (try (exfalso; omega))))
  apply W.loopP (σ := Nat) 18 [3, 6, 7] (fun k => k ≤ 2 ∧ (0 < k → x = 0) ∧ (1 < k → y = 0)) (fun k => [(8, vI k)]) (fun _ => []) (fun k => 2 - k) (0)
  case hp => repeat (first | exact Pick.nil | apply Pick.cons rfl)
  case h0 =>
    refine ⟨by simp, ?_⟩
    exact Le.auto
  case round =>
    rintro k ⟨g1, g2, g3⟩
    have hk : k = 0 ∨ k = 1 ∨ k = 2 := by omega
    have f0 : k = 0 → nth l k = x := by rintro rfl; exact e0
    have f1 : k = 1 → nth l k = y := by rintro rfl; exact e1
    apply W.norm (by repeat (first | exact App.nil | apply App.cons))
    repeat' (first | ((first | apply U_); (first | exact QX.Move TYok | exact QX.Asg TYok | exact QX.Ld TYok | exact QX.Bin TYok | exact QX.Len TYok | exact QX.Idx TYok); exact rfl) | apply RG.nil | apply Lex.nil | apply Then.n | apply Then.r | apply Then.x | apply InBlock.n | apply InBlock.r | apply InBlock.hit | (apply InBlock.miss; exact rfl) | apply W.seq | apply W.region | apply W.block | apply W.skip | apply W.ret | apply W.exit | (refine W.condA (ht := fun hb => ?_) (hf := fun hb => ?_) <;> (try simp at hb) <;> (try (exfalso; omega))))
    · have : nth l k = if x = 0 then y else x := by
        by_cases h : x = 0
        · rw [if_pos h]; omega
        · rw [if_neg h]; omega
      rw [← this]
      exact Fin.ret ResL.auto
    · refine ⟨k + 1, ⟨by omega, by omega, by omega⟩, ?_, by omega⟩
      exact Le.auto
    · have : (if x = 0 then y else x) = 0 := by rw [if_pos (g2 (by omega)), g3 (by omega)]
      rw [this]
      exact Fin.ret ResL.auto
theorem neg_ok (x : Int) (hx : okZ x) : ACalls Tryz.prog 28 [zB x] (.pv (zB (-x))) := by
  have h1 := right_yes hx
  have h2 := num_len hx
  have h3 := clone_ok (digs (mag x)) (by omega)
  have h4 := signed_ok (-(sgn x)) (digs (mag x)) (digs_norm _).dig (by omega) (-x) (by have := sgn_cases x; rw [val_mag]; omega) (by rw [val_mag, Int.neg_mul, sgn_mag])
  have hc := sgn_cases x
  refine ACalls.of_M TYok (qs := [zB (-x)]) [.cell 2 24] 14 Tryz.func28 (by kernel_rfl) rfl rfl rfl fun G => ?_
  refine W.initA (hw := ?_)
  repeat' (first | ((first | apply U_ | apply Lex.u | (apply Lex.g; exact rfl; exact rfl) | (apply Lex.gq; exact rfl; exact rfl)); (first | exact QX.Fld TYok | exact QX.Ld TYok | exact QX.Un TYok | exact QX.Build TYok | (apply Q_call (h1); exact EvL.auto; exact rfl) | (apply Q_calld (h3.data rfl); exact EvD.auto) | (apply Q_calld (h4); exact EvD.auto)); exact rfl) | refine SX.Alloc TYok (h := ?_) | refine SX.Store TYok (h := ?_) | refine SX.Box TYok (h := ?_) | apply RG.nil | apply Lex.nil | apply Then.n | apply Then.r | apply Then.x | apply InBlock.n | apply InBlock.r | apply InBlock.hit | (apply InBlock.miss; exact rfl) | apply W.seq | apply W.region | apply W.block | apply W.skip | apply W.ret | apply W.exit | (apply W.draw2 (id := 3) [0, 1, 3, 0, 8, 24, 63, 127] [[1], [7], [8], [1], [10], [11], [9, 12]] 7 [(7, 2), (8, 128), (9, 256), (10, 2), (11, 1024), (12, 2048), (13, 4608)] mixed (by kernel_rfl) rfl rfl) | (refine W.condA (ht := fun hb => ?_) (hf := fun hb => ?_) <;> (try simp at hb) <;> (try (exfalso; omega))))
  exact FinM.ret ResM.auto
theorem mul_sgn (x y : Int) : -1 ≤ sgn x * sgn y ∧ sgn x * sgn y ≤ 1 := by
  have h1 := sgn_cases x
  have h2 := sgn_cases y
  rcases h1 with h | h | h <;> rcases h2 with h' | h' | h' <;> rw [h.1, h'.1] <;> decide
theorem mulZ_ok (x y : Int) (hx : okZ x) (hy : okZ y) : ACalls Tryz.prog 10 [zB x, zB y] (.tup [zB (fullZ (x * y)), cI (fullE (x * y))]) := by
  have h1 := right_yes hx
  have h2 := right_yes hy
  have l1 := num_len hx
  have l2 := num_len hy
  have h3 := mul_ok (digs (mag x)) (digs (mag y)) (digs_norm _).dig (digs_norm _).dig (by omega) (by omega)
  rw [val_mag, val_mag] at h3
  have hs := mul_sgn x y
  have m0 : 0 ≤ mag x * mag y := Int.mul_nonneg (mag_nn x) (mag_nn y)
  have m1 : mag x * mag y < pw 120 := by
    have a1 : mag x * mag y ≤ mag x * pw 60 := Int.mul_le_mul_of_nonneg_left (by have := hy; unfold okZ at this; omega) (mag_nn x)
    have a2 : mag x * pw 60 < pw 60 * pw 60 := Int.mul_lt_mul_of_pos_right hx (pw_pos 60)
    have a3 : pw 120 = pw 60 * pw 60 := pw_add 60 60
    omega
  have l3 : (digs (mag x * mag y)).length ≤ 120 := (digs_len m0).2 m1
  have hsm : sgn x * sgn y = 1 ∨ sgn x * sgn y = -1 ∨ mag x * mag y = 0 := by
    have c1 := sgn_cases x
    have c2 := sgn_cases y
    rcases c1 with h | h | h <;> rcases c2 with h' | h' | h' <;> rw [h.1, h'.1] <;> simp [h.2.2, h'.2.2]
  have hz : x * y = sgn x * sgn y * (mag x * mag y) := by
    have e1 := sgn_mag x
    have e2 := sgn_mag y
    generalize sgn x = s1 at *
    generalize sgn y = s2 at *
    generalize mag x = p1 at *
    generalize mag y = p2 at *
    subst e1; subst e2; grind
  have h4 := signed_ok (sgn x * sgn y) (digs (mag x * mag y)) (digs_norm _).dig (by omega) (x * y) (by rw [val_digs m0]; exact hsm) (by rw [val_digs m0]; exact hz)
  obtain ⟨e1, e2⟩ := num_of m0 hsm hz
  have h5 := checked_yes (x * y) (by rw [e1]; omega)
  generalize x * y = z at *
  refine ACalls.of_M TYok (qs := [zB (fullZ z), cI (fullE z)]) [.cell 4 24, .tmp 5] 32 Tryz.func10 (by kernel_rfl) rfl rfl rfl fun G => ?_
  refine W.initA (hw := ?_)
  repeat' (first | ((first | apply U_ | (apply Ug_; exact rfl; exact rfl) | (apply Ugq_; exact rfl; exact rfl) | apply Lex.u | (apply Lex.g; exact rfl; exact rfl) | (apply Lex.gq; exact rfl; exact rfl)); (first | exact QX.Move TYok | exact QX.Asg TYok | exact QX.Fld TYok | exact QX.Ld TYok | exact QX.Bin TYok | exact QX.Pick TYok | exact QX.Un TYok | exact QX.Ext TYok | exact QX.Build TYok | (apply Q_call (h1); exact EvL.auto; exact rfl) | (apply Q_call (h2); exact EvL.auto; exact rfl) | (apply Q_calld (h3); exact EvD.auto) | (apply Q_calld (h4); exact EvD.auto) | (apply Q_calld (h5); exact EvD.auto)); exact rfl) | refine SX.Alloc TYok (h := ?_) | refine SX.Store TYok (h := ?_) | refine SX.Box TYok (h := ?_) | apply RG.nil | apply Lex.nil | apply Then.n | apply Then.r | apply Then.x | apply InBlock.n | apply InBlock.r | apply InBlock.hit | (apply InBlock.miss; exact rfl) | apply W.seq | apply W.region | apply W.block | apply W.skip | apply W.ret | apply W.exit | (apply RG.gT; exact rfl; exact rfl; (first | assumption | decide)) | (apply RG.gF; exact rfl; exact rfl; (first | assumption | decide | (rw [ne_eq, Bool.not_eq_true]; assumption) | (rw [ne_eq, Bool.not_eq_false]; assumption)); exact rfl) | (apply W.draw2 (id := 3) [0, 1, 0, 4, 15, 0, 32, 0, 128, 480, 1023, 2047, 4095, 4095, 16383, 32767] [[2], [18], [3], [20], [19, 21], [2], [23], [3], [25], [24, 26], [22, 27], [28], [29], [29]] 14 [(18, 4), (19, 262144), (20, 8), (21, 1048576), (22, 2621440), (23, 4), (24, 8388608), (25, 8), (26, 33554432), (27, 83886080), (28, 138412032), (29, 268435456), (30, 536870912), (31, 536870912)] mixed (by kernel_rfl) rfl rfl) | (refine W.condA (ht := fun hb => ?_) (hf := fun hb => ?_) <;> (try simp at hb) <;> (try (exfalso; omega))))
  exact FinM.ret ResM.auto
end Go.Proofs.YtldgkgfkdipdeaaGreatDoor
end
