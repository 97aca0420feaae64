/-
  Digits of 20 bits, the lowest one first: what a list of them is worth, and the one list without zeros at its end that is worth a number.
-/
import Derived.Test.YtipghibmgfhmpaaGreatDoorLfMore
set_option linter.unusedVariables false
set_option linter.unusedSimpArgs false
namespace Lf
open Go

def encI (n : Int) : List Cell := [.int .i64 n]
abbrev slI (l : List Int) : PV := .one (.sl (l.map encI))

def pw : Nat → Int
  | 0 => 1
  | n + 1 => 1048576 * pw n
def val : List Int → Int
  | [] => 0
  | d :: r => d + 1048576 * val r
def Dig (l : List Int) : Prop := ∀ d ∈ l, 0 ≤ d ∧ d < 1048576

theorem pw_pos : ∀ n, 0 < pw n
  | 0 => by decide
  | n + 1 => by have := pw_pos n; simp only [pw]; omega
theorem pw_add (m : Nat) : ∀ n, pw (n + m) = pw n * pw m
  | 0 => by simp [pw]
  | n + 1 => by rw [Nat.add_right_comm, pw, pw, pw_add m n]; grind
theorem pw_mono {m n : Nat} (h : m ≤ n) : pw m ≤ pw n := by
  obtain ⟨k, rfl⟩ := Nat.le.dest h
  rw [Nat.add_comm, pw_add]
  have h1 := pw_pos k
  have h2 := pw_pos m
  have : 1 * pw m ≤ pw k * pw m := Int.mul_le_mul_of_nonneg_right (by omega) (by omega)
  omega
theorem pw_lt {m n : Nat} (h : m < n) : pw m < pw n := by
  have h1 := pw_mono (show m + 1 ≤ n from h)
  have h2 := pw_pos m
  rw [pw] at h1; omega
theorem pw_inj {m n : Nat} (h : pw m < pw n) : m < n := by
  by_cases e : n ≤ m
  · have := pw_mono e; omega
  · omega

theorem Dig.nil : Dig [] := fun _ h => by cases h
theorem Dig.cons {d : Int} {r : List Int} (h : 0 ≤ d ∧ d < 1048576) (hr : Dig r) : Dig (d :: r) := fun x hx => by
  rcases List.mem_cons.1 hx with rfl | hx
  · exact h
  · exact hr x hx
theorem Dig.hd {d : Int} {r : List Int} (h : Dig (d :: r)) : 0 ≤ d ∧ d < 1048576 := h d (by simp)
theorem Dig.tl {d : Int} {r : List Int} (h : Dig (d :: r)) : Dig r := fun x hx => h x (by simp [hx])
theorem Dig.nth {l : List Int} (h : Dig l) {k : Nat} (hk : k < l.length) : 0 ≤ nth l k ∧ nth l k < 1048576 := by
  rw [nth_eq hk]; exact h _ (List.getElem_mem hk)
theorem Dig.take {l : List Int} (h : Dig l) (k : Nat) : Dig (l.take k) := fun x hx => h x (List.mem_of_mem_take hx)
theorem Dig.drop {l : List Int} (h : Dig l) (k : Nat) : Dig (l.drop k) := fun x hx => h x (List.mem_of_mem_drop hx)
theorem Dig.app {l m : List Int} (h : Dig l) (h' : Dig m) : Dig (l ++ m) := fun x hx => by
  rcases List.mem_append.1 hx with hx | hx
  · exact h x hx
  · exact h' x hx
theorem Dig.set {l : List Int} (h : Dig l) {k : Nat} {d : Int} (hd : 0 ≤ d ∧ d < 1048576) : Dig (l.set k d) := fun x hx => by
  rcases List.mem_or_eq_of_mem_set hx with hx | rfl
  · exact h x hx
  · exact hd
theorem Dig.rep (n : Nat) : Dig (List.replicate n 0) := fun x hx => by rw [(List.mem_replicate.1 hx).2]; decide

theorem val_app (m : List Int) : ∀ l : List Int, val (l ++ m) = val l + pw l.length * val m
  | [] => by simp [val, pw]
  | d :: r => by simp only [List.cons_append, val, val_app m r, List.length_cons, pw]; grind
theorem val_lo : ∀ {l : List Int}, Dig l → 0 ≤ val l
  | [], _ => by simp [val]
  | d :: r, h => by have h1 := val_lo h.tl; have h2 := h.hd; simp only [val]; omega
theorem val_hi : ∀ {l : List Int}, Dig l → val l < pw l.length
  | [], _ => by simp [val, pw]
  | d :: r, h => by have h1 := val_hi h.tl; have h2 := h.hd; simp only [val, List.length_cons, pw]; omega
theorem val_rep (n : Nat) : val (List.replicate n 0) = 0 := by
  induction n with
  | zero => rfl
  | succ n ih => rw [List.replicate_succ, val, ih]; rfl
theorem val_one (d : Int) : val [d] = d := by simp [val]
theorem val_split (l : List Int) {i : Nat} (h : i ≤ l.length) : val l = val (l.take i) + pw i * val (l.drop i) := by
  have := val_app (l.drop i) (l.take i)
  rw [List.take_append_drop] at this
  rw [this, List.length_take, Nat.min_eq_left h]
theorem val_take {l : List Int} {i : Nat} (h : i < l.length) : val (l.take (i + 1)) = val (l.take i) + pw i * nth l i := by
  rw [take_nth h, val_app, val_one, List.length_take, Nat.min_eq_left (by omega)]
theorem val_drop {l : List Int} {i : Nat} (h : i < l.length) : val (l.drop i) = nth l i + 1048576 * val (l.drop (i + 1)) := by
  rw [drop_nth h, val]
theorem nth_set_self {l : List Int} {i : Nat} {d : Int} (h : i < l.length) : nth (l.set i d) i = d := by simp [nth, List.getD, h]
theorem nth_set_ne {l : List Int} {i j : Nat} {d : Int} (h : i ≠ j) : nth (l.set i d) j = nth l j := by simp [nth, List.getD, h]
theorem val_set {l : List Int} {i : Nat} {d : Int} (h : i < l.length) : val (l.set i d) = val l + pw i * (d - nth l i) := by
  have e1 := val_split (l.set i d) (i := i) (by simp; omega)
  have e2 := val_split l (i := i) (by omega)
  rw [List.take_set_of_le (Nat.le_refl _), val_drop (by simpa using h), nth_set_self h, List.drop_set_of_lt (by omega)] at e1
  rw [val_drop h] at e2
  grind
/-- a list cut at its end -/
def trimL : List Int → List Int
  | [] => []
  | d :: r => match trimL r with
    | [] => if d = 0 then [] else [d]
    | x :: t => d :: x :: t
theorem trimL_zero : ∀ l : List Int, trimL (l ++ [0]) = trimL l
  | [] => rfl
  | d :: r => by simp only [List.cons_append, trimL, trimL_zero r]
theorem trimL_keep {d : Int} (hd : d ≠ 0) : ∀ l : List Int, trimL (l ++ [d]) = l ++ [d]
  | [] => by simp [trimL, hd]
  | x :: r => by
    simp only [List.cons_append, trimL, trimL_keep hd r]
    cases r <;> rfl
theorem trimL_len : ∀ l : List Int, (trimL l).length ≤ l.length
  | [] => by simp [trimL]
  | d :: r => by
    have := trimL_len r
    simp only [trimL]
    split
    · split <;> simp
    · rename_i x t h; rw [h] at this; simpa using this
theorem trimL_take : ∀ l : List Int, trimL l = l.take (trimL l).length
  | [] => rfl
  | d :: r => by
    have := trimL_take r
    simp only [trimL]
    split
    · rename_i h
      split <;> simp
    · rename_i x t h
      rw [h] at this
      rw [List.length_cons, List.take_succ_cons, ← this]
theorem val_trim : ∀ l : List Int, val (trimL l) = val l
  | [] => rfl
  | d :: r => by
    have := val_trim r
    simp only [trimL]
    split
    · rename_i h
      rw [h] at this
      simp only [val] at this ⊢
      split
      · rename_i e; rw [e, ← this]; simp [val]
      · rw [← this]; simp [val]
    · rename_i x t h
      rw [h] at this
      simp only [val] at this ⊢
      rw [this]
theorem Dig.trim {l : List Int} (h : Dig l) : Dig (trimL l) := by rw [trimL_take]; exact h.take _
/-- the last digit, or 1 -/
def topD : List Int → Int
  | [] => 1
  | [d] => d
  | _ :: d :: r => topD (d :: r)
structure Norm (l : List Int) : Prop where
  dig : Dig l
  top : topD l ≠ 0
theorem topD_nth : ∀ l : List Int, l ≠ [] → topD l = nth l (l.length - 1)
  | [], h => absurd rfl h
  | [d], _ => by simp [topD, nth]
  | x :: d :: r, _ => by
    rw [topD, topD_nth (d :: r) (by simp)]
    simp [nth]
theorem top_trim : ∀ l : List Int, topD (trimL l) ≠ 0
  | [] => by simp [trimL, topD]
  | d :: r => by
    have := top_trim r
    simp only [trimL]
    split
    · split
      · simp [topD]
      · simpa [topD]
    · rename_i x t h
      rw [h] at this
      simpa [topD] using this
theorem Dig.norm {l : List Int} (h : Dig l) : Norm (trimL l) := ⟨h.trim, top_trim l⟩
theorem Norm.nil : Norm [] := ⟨Dig.nil, by simp [topD]⟩
theorem Norm.trim : ∀ {l : List Int}, Norm l → trimL l = l
  | [], _ => rfl
  | [d], h => by have := h.top; simp only [topD] at this; simp [trimL, this]
  | x :: d :: r, h => by
    have ih := Norm.trim (l := d :: r) ⟨h.dig.tl, by have := h.top; simpa [topD] using this⟩
    rw [trimL, ih]
theorem Norm.tl {d : Int} {r : List Int} (h : Norm (d :: r)) : Norm r := ⟨h.dig.tl, by
  cases r with
  | nil => simp [topD]
  | cons x t => have := h.top; simpa [topD] using this⟩
theorem Norm.lo : ∀ {l : List Int}, Norm l → l ≠ [] → pw (l.length - 1) ≤ val l
  | [], _, h => absurd rfl h
  | [d], h, _ => by
    have h1 := h.top
    have h2 := h.dig.hd
    simp [topD] at h1
    simp [pw, val]; omega
  | x :: d :: r, h, _ => by
    have ih := Norm.lo h.tl (by simp)
    have h2 := h.dig.hd
    rw [val]
    simp only [List.length_cons, Nat.add_sub_cancel] at ih ⊢
    rw [pw]; omega
theorem Norm.pos {l : List Int} (h : Norm l) (hl : l ≠ []) : 0 < val l := by
  have := h.lo hl
  have := pw_pos (l.length - 1)
  omega
theorem Norm.zero {l : List Int} (h : Norm l) : val l = 0 ↔ l = [] := by
  constructor
  · intro e
    cases l with
    | nil => rfl
    | cons d r => have := h.pos (by simp); omega
  · rintro rfl; rfl
theorem Norm.len_le {l : List Int} (h : Norm l) {n : Nat} (hv : val l < pw n) : l.length ≤ n := by
  cases l with
  | nil => simp
  | cons d r =>
    have h1 := h.lo (by simp)
    have := pw_inj (show pw ((d :: r).length - 1) < pw n by omega)
    simp at this ⊢; omega
theorem Norm.le_len {l : List Int} (h : Dig l) {n : Nat} (hv : pw n ≤ val l) : n < l.length := by
  have h1 := val_hi h
  exact pw_inj (by omega)
theorem dig_uniq : ∀ {a b : List Int}, Dig a → Dig b → a.length = b.length → val a = val b → a = b
  | [], [], _, _, _, _ => rfl
  | [], _ :: _, _, _, h, _ => by simp at h
  | _ :: _, [], _, _, h, _ => by simp at h
  | x :: a, y :: b, ha, hb, hl, hv => by
    have h1 := ha.hd
    have h2 := hb.hd
    simp only [val] at hv
    have e1 : x = y := by omega
    have e2 : val a = val b := by omega
    rw [e1, dig_uniq ha.tl hb.tl (by simpa using hl) e2]
theorem norm_uniq {a b : List Int} (ha : Norm a) (hb : Norm b) (hv : val a = val b) : a = b := by
  have h1 := ha.len_le (n := b.length) (by rw [hv]; exact val_hi hb.dig)
  have h2 := hb.len_le (n := a.length) (by rw [← hv]; exact val_hi ha.dig)
  exact dig_uniq ha.dig hb.dig (by omega) hv
/-- the digits of a number -/
def digsF : Nat → Nat → List Int
  | 0, _ => []
  | f + 1, n => if n = 0 then [] else ((n % 1048576 : Nat) : Int) :: digsF f (n / 1048576)
def digs (x : Int) : List Int := digsF x.toNat x.toNat
theorem digsF_ok : ∀ (f n : Nat), n ≤ f → Norm (digsF f n) ∧ val (digsF f n) = n
  | 0, n, h => by
    obtain rfl : n = 0 := by omega
    exact ⟨Norm.nil, rfl⟩
  | f + 1, n, h => by
    rw [digsF]
    by_cases hn : n = 0
    · subst hn; exact ⟨Norm.nil, rfl⟩
    · rw [if_neg hn]
      obtain ⟨h1, h2⟩ := digsF_ok f (n / 1048576) (by omega)
      refine ⟨⟨Dig.cons (by omega) h1.dig, ?_⟩, by rw [val, h2]; omega⟩
      cases hd : digsF f (n / 1048576) with
      | nil =>
        rw [hd] at h2
        simp only [val] at h2
        simp only [topD]
        omega
      | cons x t =>
        rw [hd] at h1
        simpa [topD] using h1.top
theorem digs_norm (x : Int) : Norm (digs x) := (digsF_ok _ _ (Nat.le_refl _)).1
theorem val_digs {x : Int} (h : 0 ≤ x) : val (digs x) = x := by rw [digs, (digsF_ok _ _ (Nat.le_refl _)).2]; omega
theorem Norm.digs {l : List Int} (h : Norm l) : l = digs (val l) := norm_uniq h (digs_norm _) (val_digs (val_lo h.dig)).symm
theorem trim_digs {l : List Int} (h : Dig l) : trimL l = digs (val l) := by rw [← val_trim l]; exact h.norm.digs
theorem trim_eq {l : List Int} {x : Int} (h : Dig l) (hv : val l = x) : trimL l = digs x := by rw [← hv]; exact trim_digs h
theorem digs_zero : digs 0 = [] := rfl
theorem digs_nil {x : Int} (h : 0 ≤ x) : digs x = [] ↔ x = 0 := by
  rw [← (digs_norm x).zero, val_digs h]
theorem digs_len {x : Int} (h : 0 ≤ x) {n : Nat} : (digs x).length ≤ n ↔ x < pw n := by
  constructor
  · intro hl
    have h1 := val_hi (digs_norm x).dig
    rw [val_digs h] at h1
    exact Int.lt_of_lt_of_le h1 (pw_mono hl)
  · intro hx
    exact (digs_norm x).len_le (by rw [val_digs h]; exact hx)
theorem digs_inj {x y : Int} (hx : 0 ≤ x) (hy : 0 ≤ y) (h : digs x = digs y) : x = y := by
  rw [← val_digs hx, h, val_digs hy]

/-- so many digits of a number -/
def digL : Nat → Int → List Int
  | 0, _ => []
  | n + 1, x => x % 1048576 :: digL n (x / 1048576)
theorem digL_ok : ∀ (n : Nat) (x : Int), 0 ≤ x ∧ x < pw n → Dig (digL n x) ∧ (digL n x).length = n ∧ val (digL n x) = x
  | 0, x, h => by
    simp only [pw] at h
    exact ⟨Dig.nil, rfl, by simp [digL, val]; omega⟩
  | n + 1, x, h => by
    simp only [pw] at h
    obtain ⟨h1, h2, h3⟩ := digL_ok n (x / 1048576) (by omega)
    exact ⟨Dig.cons (by omega) h1, by simp [digL, h2], by rw [digL, val, h3]; omega⟩
/-! comparing -/
theorem val_ltL {a b : List Int} (ha : Dig a) (hb : Dig b) {i : Nat} (h1 : i < a.length) (h2 : i < b.length) (hd : a.drop (i + 1) = b.drop (i + 1)) (h : nth a i < nth b i) : val a < val b := by
  rw [val_split a (i := i) (by omega), val_split b (i := i) (by omega), val_drop h1, val_drop h2, hd]
  have e1 := val_hi (ha.take i)
  have e2 := val_lo (hb.take i)
  rw [List.length_take, Nat.min_eq_left (by omega)] at e1
  have e3 := pw_pos i
  have e4 : pw i * 1 ≤ pw i * (nth b i - nth a i) := Int.mul_le_mul_of_nonneg_left (by omega) (by omega)
  grind
theorem drop_step {a b : List Int} {i : Nat} (h1 : i < a.length) (h2 : i < b.length) (h : nth a i = nth b i) (hd : a.drop (i + 1) = b.drop (i + 1)) : a.drop i = b.drop i := by
  rw [drop_nth h1, drop_nth h2, h, hd]
theorem val_ltLen {a b : List Int} (ha : Dig a) (hb : Norm b) (h : a.length < b.length) : val a < val b := by
  have h1 := val_hi ha
  have h2 := hb.lo (by rintro rfl; simp at h)
  have h3 := pw_mono (show a.length ≤ b.length - 1 by omega)
  omega
end Lf
