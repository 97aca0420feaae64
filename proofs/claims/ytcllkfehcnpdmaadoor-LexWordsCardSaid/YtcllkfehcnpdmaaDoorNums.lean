/-
  What numbers and signs are, plainly: digits, leading zeros, the longest sign.
-/
import Derived.Test.YtcllkfehcnpdmaaDoorSpec
set_option linter.unusedVariables false
set_option linter.unusedSimpArgs false
namespace LexSpec
theorem byt_take {s : Str} {j k : Nat} (h : j < k) : byt (s.take k) j = byt s j := by
  simp [byt, List.getD, h]
theorem take_byt {s : Str} {k : Nat} (h : k < s.length) : s.take (k + 1) = s.take k ++ [byt s k] := by
  rw [List.take_succ_eq_append_getElem h]; simp [byt, List.getD, h]
theorem numV_snoc (s : Str) (c : UInt8) : numV (s ++ [c]) = 10 * numV s + (c.toNat - 48) := by simp [numV]
theorem numV_take {s : Str} {k : Nat} (h : k < s.length) : numV (s.take (k + 1)) = 10 * numV (s.take k) + ((byt s k).toNat - 48) := by
  rw [take_byt h, numV_snoc]
theorem fold_ge : ∀ (l : Str) (a : Nat), a * 10 ^ l.length ≤ l.foldl (fun n c => 10 * n + (c.toNat - 48)) a
  | [], a => by simp
  | c :: l, a => by
    rw [List.foldl_cons, List.length_cons, Nat.pow_succ]
    refine Nat.le_trans ?_ (fold_ge l _)
    rw [Nat.mul_comm (10 ^ l.length) 10, ← Nat.mul_assoc]
    exact Nat.mul_le_mul_right _ (by omega)
theorem digit_nat {c : UInt8} (h : digitF c = true) : 48 ≤ c.toNat ∧ c.toNat ≤ 57 := by
  simp only [digitF, Bool.and_eq_true, decide_eq_true_eq, UInt8.le_iff_toNat_le] at h; exact h
theorem fold_lt : ∀ (l : Str) (a : Nat), l.all digitF = true → l.foldl (fun n c => 10 * n + (c.toNat - 48)) a < (a + 1) * 10 ^ l.length
  | [], a, _ => by simp
  | c :: l, a, h => by
    simp only [List.all_cons, Bool.and_eq_true] at h
    have hd := digit_nat h.1
    rw [List.foldl_cons, List.length_cons, Nat.pow_succ, Nat.mul_comm (10 ^ l.length) 10, ← Nat.mul_assoc]
    refine Nat.lt_of_lt_of_le (fold_lt l _ h.2) ?_
    exact Nat.mul_le_mul_right _ (by omega)
theorem all_take {s : Str} {p : UInt8 → Bool} (h : s.all p = true) (k : Nat) : (s.take k).all p = true := by
  rw [List.all_eq_true] at h ⊢
  exact fun x hx => h x (List.mem_of_mem_take hx)
theorem numV_lt {s : Str} (h : s.all digitF = true) {k : Nat} (hk : s.length ≤ k) : numV s < 10 ^ k := by
  have := fold_lt s 0 h
  have h2 : 10 ^ s.length ≤ 10 ^ k := Nat.pow_le_pow_right (by omega) hk
  simp only [Nat.zero_add, Nat.one_mul] at this
  exact Nat.lt_of_lt_of_le this h2
theorem numV_take_le (s : Str) (k : Nat) : numV (s.take k) ≤ numV s := by
  have h := fold_ge (s.drop k) (numV (s.take k))
  have e : (s.drop k).foldl (fun n c => 10 * n + (c.toNat - 48)) (numV (s.take k)) = numV s := by
    unfold numV
    rw [← List.foldl_append, List.take_append_drop]
  rw [e] at h
  refine Nat.le_trans ?_ h
  exact Nat.le_mul_of_pos_right _ (Nat.pow_pos (by omega))
theorem num_short {s : Str} (hd : s.all digitF = true) (h0 : byt s 0 ≠ 48) (hn : numV s ≤ 1000000000000000) : s.length ≤ 16 := by
  cases s with
  | nil => simp
  | cons c s =>
    simp only [List.all_cons, Bool.and_eq_true] at hd
    have hc := digit_nat hd.1
    have hc0 : c ≠ 48 := h0
    have hc1 : 49 ≤ c.toNat := by
      have : c.toNat ≠ 48 := fun e => hc0 (UInt8.toNat_inj.1 (by rw [e]; rfl))
      omega
    have h := fold_ge s (10 * 0 + (c.toNat - 48))
    have e : s.foldl (fun n c => 10 * n + (c.toNat - 48)) (10 * 0 + (c.toNat - 48)) = numV (c :: s) := rfl
    rw [e] at h
    have h2 : 10 ^ s.length ≤ (10 * 0 + (c.toNat - 48)) * 10 ^ s.length := Nat.le_mul_of_pos_left _ (by omega)
    rw [List.length_cons]
    apply Nat.le_of_not_lt
    intro hlt
    have h3 : 10 ^ 16 ≤ 10 ^ s.length := Nat.pow_le_pow_right (by omega) (by omega)
    have h4 : (10 : Nat) ^ 16 = 10000000000000000 := by decide
    omega
theorem numOk_iff {s : Str} : numOk s = true ↔ s ≠ [] ∧ s.all digitF = true ∧ (s.length = 1 ∨ byt s 0 ≠ 48) ∧ s.length ≤ 16 ∧ numV s ≤ 1000000000000000 := by
  simp [numOk, and_assoc]
theorem number_of {s : Str} (h : numOk s = true) : numberF s = ((numV s : Int), true) := by simp [numberF, h]
theorem number_no {s : Str} (h : ¬ numOk s = true) : numberF s = (0, false) := by simp [numberF, h]
/-! ### signs -/
def ONE : Str := [59, 44, 61, 60, 43, 45, 42, 47, 40, 41]
theorem sign_two {a b : UInt8} {r : Str} (ha : a = 61) (hb : b = 61) : signF (a :: b :: r) = some [61, 61] := by subst ha; subst hb; rfl
theorem sign_one {c : UInt8} {r : Str} (h : ¬ (c = 61 ∧ byt r 0 = 61 ∧ r ≠ [])) : signF (c :: r) = if c ∈ ONE then some [c] else none := by
  have h2 : ([61, 61] : Str).isPrefixOf (c :: r) = false := by
    cases r with
    | nil => simp [List.isPrefixOf]
    | cons d r =>
      simp only [byt, List.getD_cons_zero, ne_eq, reduceCtorEq, not_false_eq_true, and_true] at h
      simp only [List.isPrefixOf, Bool.and_true]
      cases hc : ((61 : UInt8) == c) with
      | false => simp
      | true =>
        cases hd : ((61 : UInt8) == d) with
        | false => simp
        | true => exact absurd ⟨(beq_iff_eq.1 hc).symm, (beq_iff_eq.1 hd).symm⟩ h
  unfold signF SIGNS
  rw [List.find?_cons, h2]
  have h3 : ∀ x : UInt8, ([x] : Str).isPrefixOf (c :: r) = (x == c) := fun x => by simp [List.isPrefixOf]
  have key : ∀ l : Str, (l.map fun x => ([x] : Str)).find? (fun x => x.isPrefixOf (c :: r)) = if c ∈ l then some [c] else none := by
    intro l
    induction l with
    | nil => rfl
    | cons x l ih =>
      rw [List.map_cons, List.find?_cons, h3, ih]
      cases hx : (x == c) with
      | true => simp [beq_iff_eq.1 hx]
      | false =>
        have : c ≠ x := fun e => by rw [e] at hx; simp at hx
        simp [this]
  exact key ONE
end LexSpec
namespace LexSpec
/-! ### one round of lexing -/
theorem tw_dw {p : UInt8 → Bool} {s : Str} : s.dropWhile p = s.drop (s.takeWhile p).length := by
  have h := List.takeWhile_append_dropWhile (p := p) (l := s)
  have h2 : (s.takeWhile p ++ s.dropWhile p).drop (s.takeWhile p).length = s.dropWhile p := List.drop_left ..
  rw [h] at h2
  exact h2.symm
theorem pre_err (l : List Token) (p e : Int) : preR l (.err p e) = .err p e := by
  induction l with
  | nil => rfl
  | cons t l ih => show Res.cons t (preR l (.err p e)) = _; rw [ih]; rfl
theorem pre_snoc (l : List Token) (t : Token) (r : Res) : preR (l ++ [t]) r = preR l (Res.cons t r) := by
  simp [preR]
abbrev atPos (t : Token) (p : Int) : Token := ⟨t.kind, t.text, t.n, p⟩
theorem lex_step {s : Str} {k b : Nat} {l : List Token} (hk : k ≤ s.length) (h : lexF s = preR l (lexGo (s.length + 1) k (s.drop k))) (hb : b = k + ((s.drop k).takeWhile blankF).length) :
    b ≤ s.length ∧ (b = s.length → lexF s = .ok (l ++ [⟨3, [], 0, b⟩])) ∧ (b < s.length → (nextF (s.drop b)).2 ≠ 0 → lexF s = .err b (nextF (s.drop b)).2) ∧
    (b < s.length → (nextF (s.drop b)).2 = 0 → 0 < (nextF (s.drop b)).1.text.length ∧ b + (nextF (s.drop b)).1.text.length ≤ s.length ∧
      lexF s = preR (l ++ [atPos (nextF (s.drop b)).1 b]) (lexGo (s.length + 1) (b + (nextF (s.drop b)).1.text.length) (s.drop (b + (nextF (s.drop b)).1.text.length)))) := by
  have hle : ((s.drop k).takeWhile blankF).length ≤ (s.drop k).length := (List.takeWhile_prefix _).length_le
  rw [List.length_drop] at hle
  have hr : (s.drop k).dropWhile blankF = s.drop b := by rw [tw_dw, List.drop_drop, hb]
  have hbl : k + ((s.drop k).length - (s.drop b).length) = b := by simp only [List.length_drop]; omega
  rw [lexGo] at h
  simp only [hr, hbl] at h
  refine ⟨by omega, fun he => ?_, fun hlt he => ?_, fun hlt he => ?_⟩
  · rw [if_pos (by rw [he]; exact List.drop_length)] at h
    rw [h, pre_ok]
  · rw [if_neg (by rw [List.drop_eq_nil_iff]; omega), if_pos he, pre_err] at h
    exact h
  · have hne : s.drop b ≠ [] := by rw [ne_eq, List.drop_eq_nil_iff]; omega
    obtain ⟨g1, g2, _⟩ := next_len hne he
    rw [List.length_drop] at g2
    refine ⟨g1, by omega, ?_⟩
    rw [if_neg hne, if_neg (by simpa using he)] at h
    rw [h, pre_snoc, List.drop_drop]
    congr 2
    rw [go_fuel s.length _ _ (by simp; omega), go_fuel (s.length + 1) _ _ (by simp; omega)]
end LexSpec
namespace LexSpec
theorem go_blank {s : Str} {k : Nat} (hk : k < s.length) (hb : blankF (byt s k) = true) : lexGo (s.length + 1) k (s.drop k) = lexGo (s.length + 1) (k + 1) (s.drop (k + 1)) := by
  have hd : s.drop k = byt s k :: s.drop (k + 1) := by
    rw [List.drop_eq_getElem_cons hk]; congr 1; simp [byt, List.getD, hk]
  have hr : (s.drop k).dropWhile blankF = (s.drop (k + 1)).dropWhile blankF := by rw [hd, List.dropWhile_cons, if_pos hb]
  have hle : ((s.drop (k + 1)).dropWhile blankF).length ≤ (s.drop (k + 1)).length := (List.dropWhile_suffix _).length_le
  have hl : k + ((s.drop k).length - ((s.drop (k + 1)).dropWhile blankF).length) = k + 1 + ((s.drop (k + 1)).length - ((s.drop (k + 1)).dropWhile blankF).length) := by
    simp only [List.length_drop] at hle ⊢; omega
  rw [lexGo, lexGo]
  simp only [hr, hl]
theorem tw_none {s : Str} {k : Nat} (hk : k < s.length) (hb : blankF (byt s k) = false) : k = k + ((s.drop k).takeWhile blankF).length := by
  have hd : s.drop k = byt s k :: s.drop (k + 1) := by
    rw [List.drop_eq_getElem_cons hk]; congr 1; simp [byt, List.getD, hk]
  rw [hd, List.takeWhile_cons, if_neg (by rw [hb]; simp)]; simp
theorem tw_end {s : Str} {k : Nat} (hk : k = s.length) : k = k + ((s.drop k).takeWhile blankF).length := by
  rw [hk, List.drop_length]; simp
end LexSpec
