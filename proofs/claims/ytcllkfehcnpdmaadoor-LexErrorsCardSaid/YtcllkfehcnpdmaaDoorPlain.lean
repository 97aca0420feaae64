/-
  The laws of lexing as the statements ask for them, plainly.
-/
import Derived.Test.YtcllkfehcnpdmaaDoorNums
set_option linter.unusedVariables false
set_option linter.unusedSimpArgs false
namespace LexSpec
theorem lex_go {t : Str} {l : List Token} (h : lexF t = .ok l) : lexGo (t.length + 1) 0 t = .ok l := by
  unfold lexF at h
  split at h
  · cases h
  · exact h
theorem sum_len {ts : List Token} (h : ∀ t ∈ ts, t.text ≠ []) : ts.length ≤ (ts.map fun t => t.text.length).sum := by
  induction ts with
  | nil => simp
  | cons t ts ih =>
    have h1 := ih fun x hx => h x (List.mem_cons_of_mem _ hx)
    have h2 := List.length_pos_iff.2 (h t (by simp))
    simp only [List.length_cons, List.map_cons, List.sum_cons]
    omega
theorem lex_len {t : Str} {l : List Token} (h : lexF t = .ok l) : l ≠ [] ∧ l.length ≤ t.length + 1 := by
  obtain ⟨ts, e, rfl, _, _, _, h1, h2⟩ := go_self _ _ _ _ (lex_go h)
  have := sum_len fun t ht => (h1 t ht).1.2.1
  exact ⟨by simp, by simp; omega⟩
def likeB (a b : List Token) : Bool := decide (a.map (fun t => (t.kind, t.text, t.n)) = b.map (fun t => (t.kind, t.text, t.n)))
theorem likeL_map : ∀ {a b : List Token}, LikeL a b → a.map (fun t => (t.kind, t.text, t.n)) = b.map (fun t => (t.kind, t.text, t.n))
  | [], [], _ => rfl
  | x :: a, y :: b, h => by
    obtain ⟨⟨h1, h2, h3⟩, h4⟩ := h
    simp [h1, h2, h3, likeL_map h4]
theorem joinT_len : ∀ ts : List Token, (joinT ts).length ≤ (ts.map fun t => t.text.length).sum + ts.length
  | [] => by simp [joinT]
  | [t] => by simp [joinT]
  | t :: u :: r => by
    have := joinT_len (u :: r)
    simp only [joinT, List.length_append, List.length_cons, List.map_cons, List.sum_cons] at this ⊢
    omega
theorem joinT_map : ∀ {a b : List Token}, a.map (fun t => t.text) = b.map (fun t => t.text) → joinT a = joinT b
  | [], [], _ => rfl
  | [t], [u], h => by simpa [joinT] using h
  | t :: u :: r, x :: y :: z, h => by
    simp only [List.map_cons, List.cons.injEq] at h
    have := joinT_map (a := u :: r) (b := y :: z) (by simp [h.2.1, h.2.2])
    simp only [joinT, this, h.1]
  | [], _ :: _, h => by simp at h
  | _ :: _, [], h => by simp at h
  | [t], _ :: _ :: _, h => by simp at h
  | _ :: _ :: _, [u], h => by simp at h
theorem ft_all {ts : List Token} {e : Token} (h : ∀ t ∈ ts, t.kind ≠ 3) (he : e.kind = 3) : textF (ts ++ [e]) = joinT ts := by
  have e1 : ts.filter (fun t => decide (t.kind ≠ 3)) = ts := List.filter_eq_self.2 fun t ht => by simpa using h t ht
  unfold textF
  rw [List.filter_append, e1]
  simp [he]
theorem like_kind : ∀ {a b : List Token}, LikeL a b → (∀ t ∈ b, t.kind ≠ 3) → ∀ t ∈ a, t.kind ≠ 3
  | [], [], _, _ => by simp
  | x :: a, y :: b, h, hb => by
    obtain ⟨⟨h1, _, _⟩, h4⟩ := h
    intro t ht
    rcases List.mem_cons.1 ht with rfl | ht
    · rw [h1]; exact hb y (by simp)
    · exact like_kind h4 (fun t ht => hb t (List.mem_cons_of_mem _ ht)) t ht
theorem lex_back {t : Str} {l : List Token} (ht : t.length ≤ 900) (h : lexF t = .ok l) : ∃ m, lexF (textF l) = .ok m ∧ likeB l m = true ∧ textF m = textF l ∧ (textF l).length ≤ 1800 ∧ m.length ≤ 2000 := by
  obtain ⟨ts, e, rfl, e1, e2, e3, h1, h2⟩ := go_self _ _ _ _ (lex_go h)
  have hs := sum_len fun t ht => (h1 t ht).1.2.1
  have hj := joinT_len ts
  have htx : textF (ts ++ [e]) = joinT ts := ft_all (fun t ht => (h1 t ht).2) e1
  obtain ⟨l', e', g1, g2, g3, g4, g5⟩ := lex_text ts 0 fun t ht => (h1 t ht).1
  have hl : lexF (joinT ts) = .ok (l' ++ [e']) := by
    unfold lexF
    rw [if_neg (by omega)]
    exact g1
  have hm := likeL_map g2
  refine ⟨l' ++ [e'], by rw [htx]; exact hl, ?_, ?_, by rw [htx]; omega, ?_⟩
  · rw [likeB, decide_eq_true_iff, List.map_append, List.map_append, hm]
    simp [e1, e2, e3, g3, g4, g5]
  · rw [htx, ft_all (like_kind g2 fun t ht => (h1 t ht).2) g3]
    refine joinT_map ?_
    have := congrArg (fun z => z.map fun q : Int × Str × Int => q.2.1) hm
    simpa [Function.comp_def] using this
  · have := congrArg List.length hm
    simp at this ⊢; omega
/-! ### one token of a chain -/
theorem chain_step {t : Str} {l : List Token} {i e : Nat} {x : Token} (hx : l.drop i = x :: l.drop (i + 1)) (hi : i < l.length) (h : Chain t e (l.drop i)) :
    ∃ p : Nat, x.pos = p ∧ e ≤ p ∧ p + x.text.length ≤ t.length ∧ (t.drop p).take x.text.length = x.text ∧ (∀ k, e ≤ k → k < p → blankF (byt t k) = true) ∧
      decide (x.text = []) = decide (i + 1 = l.length) ∧ decide (x.kind = 3) = decide (i + 1 = l.length) ∧ (x.kind ≠ 1 → x.n = 0) ∧ (i + 1 = l.length → p + x.text.length = t.length) ∧ (i + 1 < l.length → Chain t (p + x.text.length) (l.drop (i + 1))) := by
  rw [hx] at h
  by_cases hl : i + 1 = l.length
  · have h0 : l.drop (i + 1) = [] := List.drop_eq_nil_iff.2 (by omega)
    rw [h0] at h
    obtain ⟨h1, h2, h3, h4, h5, h6⟩ := h
    refine ⟨t.length, h4, h5, by simp [h2], by simp [h2], h6, by simp [h2, hl], by simp [h1, hl], fun _ => h3, fun _ => by simp [h2], fun h => by omega⟩
  · cases hd : l.drop (i + 1) with
    | nil => have := List.drop_eq_nil_iff.1 hd; omega
    | cons y r =>
      rw [hd] at h
      obtain ⟨p, h1, h2, h3, h4, h5, h6, h7, h8, h9⟩ := h
      exact ⟨p, h1, h5, h6, h7, h8, by simp [h3, hl], by simp [h2, hl], h4, fun h => absurd h hl, fun _ => h9⟩
theorem chain_pos {t : Str} : ∀ {l : List Token} {e : Nat}, Chain t e l → ∀ x ∈ l, 0 ≤ x.pos ∧ x.pos ≤ t.length
  | [], e, h => h.elim
  | [x], e, h => by
    obtain ⟨h1, h2, h3, h4, h5, h6⟩ := h
    intro y hy
    rw [List.mem_singleton.1 hy, h4]; omega
  | x :: y :: r, e, h => by
    obtain ⟨p, h1, h2, h3, h4, h5, h6, h7, h8, h9⟩ := h
    intro z hz
    rcases List.mem_cons.1 hz with rfl | hz
    · rw [h1]; omega
    · exact chain_pos h9 z hz
/-! ### two strings -/
def shT (d : Int) (t : Token) : Token := ⟨t.kind, t.text, t.n, t.pos + d⟩
def shiftR (d : Int) : Res → Res
  | .ok l => .ok (l.map (shT d))
  | .err p e => .err (p + d) e
theorem shift_cons (d : Int) (t : Token) (r : Res) : shiftR d (Res.cons t r) = Res.cons (shT d t) (shiftR d r) := by
  cases r <;> rfl
theorem go_shift (d : Nat) : ∀ (k a : Nat) (s : Str), lexGo k (a + d) s = shiftR d (lexGo k a s) := by
  intro k
  induction k with
  | zero => intro a s; rw [lexGo, lexGo]; simp [shiftR, shT]
  | succ k ih =>
    intro a s
    rw [lexGo, lexGo]
    simp only
    split
    · simp [shiftR, shT]; omega
    · split
      · simp [shiftR]; omega
      · rw [shift_cons, ← ih]
        have e1 : a + d + (s.length - (s.dropWhile blankF).length) + (nextF (s.dropWhile blankF)).1.text.length = a + (s.length - (s.dropWhile blankF).length) + (nextF (s.dropWhile blankF)).1.text.length + d := by omega
        rw [e1]
        congr 1
        simp [shT]; omega
theorem lex_join {x y : Str} {c : UInt8} (hc : blankF c = true) (hx : x.length ≤ 900) (hy : y.length ≤ 900) :
    (∀ p e, lexF x = .err p e → lexF (x ++ [c] ++ y) = .err p e) ∧ (∀ l, lexF x = .ok l → ∀ p e, lexF y = .err p e → lexF (x ++ [c] ++ y) = .err (p + (x.length + 1 : Nat)) e) ∧
    (∀ l m, lexF x = .ok l → lexF y = .ok m → lexF (x ++ [c] ++ y) = .ok (l.dropLast ++ m.map (shT (x.length + 1 : Nat)))) := by
  have h := go_join hc y (x.length + 1) 0 x (by omega)
  have hc2 : x ++ [c] ++ y = x ++ c :: y := by simp
  have e1 : lexF (x ++ c :: y) = lexGo (x.length + 1 + y.length + 1) 0 (x ++ c :: y) := by
    unfold lexF
    rw [if_neg (by simp; omega)]
    congr 1; simp; omega
  have e2 : lexF x = lexGo (x.length + 1) 0 x := by unfold lexF; rw [if_neg (by omega)]
  have e3 : lexGo (y.length + 1) (0 + x.length + 1) y = shiftR (x.length + 1 : Nat) (lexF y) := by
    rw [show 0 + x.length + 1 = 0 + (x.length + 1) by omega, go_shift]
    unfold lexF; rw [if_neg (by omega)]
  rw [hc2, e1, e2, h, e3]
  refine ⟨fun p e hx => by rw [hx], fun l hx p e hy => ?_, fun l m hx hy => ?_⟩
  · rw [hx, hy]; simp only [shiftR, pre_err]
  · rw [hx, hy]; simp only [shiftR, pre_ok]
end LexSpec
