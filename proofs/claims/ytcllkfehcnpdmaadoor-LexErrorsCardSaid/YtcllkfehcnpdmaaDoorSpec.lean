/-
  What lexing is, as functions on lists of bytes, and the plain laws of the chapter: no program in sight.
-/
set_option linter.unusedVariables false
set_option linter.unusedSimpArgs false
namespace LexSpec
abbrev Str := List UInt8
structure Token where
  kind : Int
  text : Str
  n : Int
  pos : Int
  deriving Inhabited, DecidableEq
def byt (s : Str) (k : Nat) : UInt8 := s.getD k 0
def blankF (c : UInt8) : Bool := decide (c = 32) || decide (c = 9) || decide (c = 10)
def letterF (c : UInt8) : Bool := decide (97 ≤ c) && decide (c ≤ 122)
def digitF (c : UInt8) : Bool := decide (48 ≤ c) && decide (c ≤ 57)
def alnum (c : UInt8) : Bool := letterF c || digitF c
def wordF (s : Str) : Bool := !s.isEmpty && letterF (byt s 0) && decide (s.length ≤ 20) && s.all alnum
def numV (s : Str) : Nat := s.foldl (fun n c => 10 * n + (c.toNat - 48)) 0
def numOk (s : Str) : Bool := !s.isEmpty && s.all digitF && (decide (s.length = 1) || decide (byt s 0 ≠ 48)) && decide (s.length ≤ 16) && decide (numV s ≤ 1000000000000000)
def numberF (s : Str) : Int × Bool := if numOk s then ((numV s : Int), true) else (0, false)
def SIGNS : List Str := [[61, 61], [59], [44], [61], [60], [43], [45], [42], [47], [40], [41]]
def signF (s : Str) : Option Str := SIGNS.find? fun x => x.isPrefixOf s
/-- the token at the beginning of what is not empty and does not begin with a blank, or the error -/
def nextF (s : Str) : Token × Int :=
  if letterF (byt s 0) then (if wordF (s.takeWhile alnum) then (⟨0, s.takeWhile alnum, 0, 0⟩, 0) else (default, 11))
  else if digitF (byt s 0) then (if numOk (s.takeWhile digitF) then (⟨1, s.takeWhile digitF, numV (s.takeWhile digitF), 0⟩, 0) else (default, 3))
  else match signF s with
    | some x => (⟨2, x, 0, 0⟩, 0)
    | none => (default, 10)
inductive Res where
  | ok (l : List Token)
  | err (at_ : Int) (e : Int)
  deriving DecidableEq
def Res.cons (t : Token) : Res → Res
  | .ok l => .ok (t :: l)
  | .err a e => .err a e
/-- from a place on: fuel, place, what is left -/
def lexGo : Nat → Nat → Str → Res
  | 0, a, _ => .ok [⟨3, [], 0, a⟩]
  | k + 1, a, s =>
    let r := s.dropWhile blankF
    let b := a + (s.length - r.length)
    if r = [] then .ok [⟨3, [], 0, b⟩]
    else if (nextF r).2 ≠ 0 then .err b (nextF r).2
    else Res.cons { (nextF r).1 with pos := b } (lexGo k (b + (nextF r).1.text.length) (r.drop (nextF r).1.text.length))
def lexF (s : Str) : Res := if s.length > 4000 then .err 0 6 else lexGo (s.length + 1) 0 s

theorem tw_ne {p : UInt8 → Bool} {s : Str} (hs : s ≠ []) (h : p (byt s 0) = true) : s.takeWhile p ≠ [] := by
  cases s with
  | nil => exact absurd rfl hs
  | cons c s => simp [byt] at h; simp [List.takeWhile_cons, h]
theorem next_len {s : Str} (hs : s ≠ []) (h : (nextF s).2 = 0) : 0 < (nextF s).1.text.length ∧ (nextF s).1.text.length ≤ s.length ∧ (nextF s).1.text = s.take (nextF s).1.text.length := by
  have tw : ∀ p : UInt8 → Bool, (s.takeWhile p).length ≤ s.length ∧ s.takeWhile p = s.take (s.takeWhile p).length := fun p => by
    have hp := List.takeWhile_prefix (p := p) (l := s)
    exact ⟨hp.length_le, (List.prefix_iff_eq_take.1 hp)⟩
  unfold nextF at h ⊢
  split at h
  · rename_i hl
    split at h
    · rename_i hw
      simp only [hl, hw, if_true]
      exact ⟨List.length_pos_iff.2 (tw_ne hs (by simp [alnum, hl])), tw _⟩
    · simp at h
  · rename_i hl
    split at h
    · rename_i hd
      split at h
      · rename_i hn
        simp only [hl, hd, hn, if_true]
        exact ⟨List.length_pos_iff.2 (tw_ne hs hd), tw _⟩
      · simp at h
    · rename_i hd
      cases hg : signF s with
      | none => rw [hg] at h; simp at h
      | some x =>
        simp only [hl, hd, hg]
        have hx := List.mem_of_find?_eq_some hg
        have hp := List.find?_some hg
        have hpre : x <+: s := List.isPrefixOf_iff_prefix.1 hp
        refine ⟨?_, hpre.length_le, List.prefix_iff_eq_take.1 hpre⟩
        simp [SIGNS] at hx
        rcases hx with rfl | rfl | rfl | rfl | rfl | rfl | rfl | rfl | rfl | rfl | rfl <;> simp
/-- more fuel changes nothing -/
theorem go_fuel : ∀ (k : Nat) (s : Str) (a : Nat), s.length < k → lexGo k a s = lexGo (s.length + 1) a s := by
  intro k
  induction k using Nat.strongRecOn with
  | _ k ih =>
    intro s a hk
    cases k with
    | zero => omega
    | succ k =>
      rw [lexGo, lexGo]
      simp only
      by_cases hr : s.dropWhile blankF = []
      · simp [hr]
      · by_cases he : (nextF (s.dropWhile blankF)).2 = 0
        · obtain ⟨h1, h2, _⟩ := next_len hr he
          have hl : (s.dropWhile blankF).length ≤ s.length := (List.dropWhile_suffix _).length_le
          have hd : ((s.dropWhile blankF).drop (nextF (s.dropWhile blankF)).1.text.length).length < s.length := by simp; omega
          rw [if_neg hr, if_neg hr, if_neg (by simpa using he), if_neg (by simpa using he), ih k (by omega) _ _ (by omega)]
          rw [ih s.length (by omega) _ _ hd]
        · rw [if_neg hr, if_neg hr, if_pos (by simpa using he), if_pos (by simpa using he)]
/-! ### Places -/
theorem dw_drop {p : UInt8 → Bool} {s : Str} : s.dropWhile p = s.drop (s.length - (s.dropWhile p).length) := by
  have h := List.takeWhile_append_dropWhile (p := p) (l := s)
  have hl : (s.takeWhile p).length = s.length - (s.dropWhile p).length := by
    have := congrArg List.length h
    rw [List.length_append] at this; omega
  rw [← hl]
  have h2 : (s.takeWhile p ++ s.dropWhile p).drop (s.takeWhile p).length = s.dropWhile p := List.drop_left ..
  rw [h] at h2
  exact h2.symm
theorem dw_blank {p : UInt8 → Bool} {s : Str} {k : Nat} (hk : k < s.length - (s.dropWhile p).length) : p (byt s k) = true := by
  have h := List.takeWhile_append_dropWhile (p := p) (l := s)
  have hl : (s.takeWhile p).length = s.length - (s.dropWhile p).length := by
    have := congrArg List.length h
    rw [List.length_append] at this; omega
  have hk' : k < (s.takeWhile p).length := by omega
  have e : byt s k = (s.takeWhile p)[k] := by
    have h2 : (s.takeWhile p ++ s.dropWhile p)[k]? = (s.takeWhile p)[k]? := List.getElem?_append_left hk'
    rw [h, List.getElem?_eq_getElem hk'] at h2
    unfold byt
    simp [List.getD, h2]
  rw [e]
  have key : ∀ (l : Str) (k : Nat) (h : k < (l.takeWhile p).length), p ((l.takeWhile p)[k]) = true := by
    intro l
    induction l with
    | nil => intro k h; simp at h
    | cons c l ih =>
      intro k h
      cases hc : p c with
      | false => simp [List.takeWhile_cons, hc] at h
      | true =>
        cases k with
        | zero => simp [List.takeWhile_cons, hc]
        | succ k =>
          simp only [List.takeWhile_cons, hc, if_true, List.length_cons] at h
          simpa [List.takeWhile_cons, hc] using ih k (by omega)
  exact key s k hk'
theorem byt_drop {s : Str} {a k : Nat} : byt (s.drop a) k = byt s (a + k) := by simp [byt, List.getD]
/-- each token at its place, nothing but blanks between them -/
def Chain (t : Str) : Nat → List Token → Prop
  | _, [] => False
  | e, [x] => x.kind = 3 ∧ x.text = [] ∧ x.n = 0 ∧ x.pos = t.length ∧ e ≤ t.length ∧ ∀ k, e ≤ k → k < t.length → blankF (byt t k) = true
  | e, x :: y :: r => ∃ p : Nat, x.pos = p ∧ x.kind ≠ 3 ∧ x.text ≠ [] ∧ (x.kind ≠ 1 → x.n = 0) ∧ e ≤ p ∧ p + x.text.length ≤ t.length ∧ (t.drop p).take x.text.length = x.text ∧ (∀ k, e ≤ k → k < p → blankF (byt t k) = true) ∧ Chain t (p + x.text.length) (y :: r)
theorem next_kind {s : Str} (h : (nextF s).2 = 0) : (nextF s).1.kind ≠ 3 ∧ ((nextF s).1.kind ≠ 1 → (nextF s).1.n = 0) ∧ ((nextF s).1.kind = 0 ∨ (nextF s).1.kind = 1 ∨ (nextF s).1.kind = 2) := by
  unfold nextF at h ⊢
  split at h
  · rename_i hl
    split at h
    · rename_i hw; simp [hl, hw]
    · simp at h
  · rename_i hl
    split at h
    · rename_i hd
      split at h
      · rename_i hn; simp [hl, hd, hn]
      · simp at h
    · rename_i hd
      cases hg : signF s with
      | none => rw [hg] at h; simp at h
      | some x => simp [hl, hd, hg]
theorem res_cons {t : Token} {r : Res} {l : List Token} (h : Res.cons t r = .ok l) : ∃ m, r = .ok m ∧ l = t :: m := by
  cases r with
  | ok m => simp [Res.cons] at h; exact ⟨m, rfl, h.symm⟩
  | err a e => simp [Res.cons] at h
theorem go_chain (t : Str) : ∀ (k a : Nat) (l : List Token), t.length < a + k → a ≤ t.length → lexGo k a (t.drop a) = .ok l → Chain t a l := by
  intro k
  induction k with
  | zero => intro a l h1 h2 _; omega
  | succ k ih =>
    intro a l h1 h2 h
    rw [lexGo] at h
    simp only at h
    have hr := dw_drop (p := blankF) (s := t.drop a)
    have hb : ∀ j, j < (t.drop a).length - ((t.drop a).dropWhile blankF).length → blankF (byt (t.drop a) j) = true := fun j hj => dw_blank hj
    have hle : ((t.drop a).dropWhile blankF).length ≤ (t.drop a).length := (List.dropWhile_suffix _).length_le
    generalize hR : (t.drop a).dropWhile blankF = R at *
    have hlen : (t.drop a).length = t.length - a := by simp
    rw [hlen] at h hr hb hle
    have hRd : R = t.drop (a + (t.length - a - R.length)) := hr.trans (by rw [List.drop_drop])
    have hblank : ∀ j, a ≤ j → j < a + (t.length - a - R.length) → blankF (byt t j) = true := fun j h3 h4 => by
      have := hb (j - a) (by omega)
      rw [byt_drop] at this
      rwa [show a + (j - a) = j by omega] at this
    split at h
    · rename_i hn
      injection h with h
      subst h
      have h0 : R.length = 0 := by rw [hn]; rfl
      refine ⟨rfl, rfl, rfl, ?_, h2, fun j h3 h4 => hblank j h3 (by omega)⟩
      simp only
      omega
    · rename_i hn
      split at h
      · cases h
      · rename_i he
        have he' : (nextF R).2 = 0 := by simpa using he
        obtain ⟨g1, g2, g3⟩ := next_len hn he'
        obtain ⟨q1, q2, _⟩ := next_kind he'
        obtain ⟨m, hm, rfl⟩ := res_cons h
        have hd : R.drop (nextF R).1.text.length = t.drop (a + (t.length - a - R.length) + (nextF R).1.text.length) := by
          have := congrArg (fun z : Str => z.drop (nextF R).1.text.length) hRd
          simp only [List.drop_drop] at this
          exact this
        rw [hd] at hm
        have hc := ih (a + (t.length - a - R.length) + (nextF R).1.text.length) m (by omega) (by omega) hm
        cases m with
        | nil => exact hc.elim
        | cons y r =>
          refine ⟨a + (t.length - a - R.length), rfl, q1, List.length_pos_iff.1 g1, q2, by omega, by simp only; omega, ?_, hblank, hc⟩
          simp only
          rw [← hRd]; exact g3.symm
theorem lex_chain {t : Str} {l : List Token} (h : lexF t = .ok l) : Chain t 0 l := by
  unfold lexF at h
  split at h
  · cases h
  · exact go_chain t (t.length + 1) 0 l (by omega) (by omega) (by simpa using h)
/-! ### Joins -/
theorem blank_cases {c : UInt8} (h : blankF c = true) : c = 32 ∨ c = 9 ∨ c = 10 := by
  simp only [blankF, Bool.or_eq_true, decide_eq_true_eq] at h
  rcases h with (h | h) | h
  · exact .inl h
  · exact .inr (.inl h)
  · exact .inr (.inr h)
theorem blank_not {c : UInt8} (h : blankF c = true) : letterF c = false ∧ digitF c = false ∧ alnum c = false ∧ ∀ x ∈ SIGNS, c ∉ x := by
  rcases blank_cases h with rfl | rfl | rfl <;> decide
theorem tw_stop {p : UInt8 → Bool} {c : UInt8} (h : p c = false) : ∀ {r y : Str}, (r ++ c :: y).takeWhile p = r.takeWhile p
  | [], y => by simp [List.takeWhile_cons, h]
  | d :: r, y => by
    simp only [List.cons_append, List.takeWhile_cons]
    split
    · rw [tw_stop h]
    · rfl
theorem pre_stop {c : UInt8} {y : Str} : ∀ {x r : Str}, c ∉ x → x.isPrefixOf (r ++ c :: y) = x.isPrefixOf r
  | [], r, _ => by simp
  | d :: x, [], h => by
    have : ¬ d = c := fun e => h (by simp [e])
    simp [List.isPrefixOf, this]
  | d :: x, e :: r, h => by
    simp only [List.cons_append, List.isPrefixOf]
    rw [pre_stop fun hx => h (List.mem_cons_of_mem _ hx)]
theorem byt_app {r y : Str} {c : UInt8} (h : r ≠ []) : byt (r ++ c :: y) 0 = byt r 0 := by
  cases r with
  | nil => exact absurd rfl h
  | cons d r => rfl
theorem next_stop {c : UInt8} {r y : Str} (hc : blankF c = true) (hr : r ≠ []) : nextF (r ++ c :: y) = nextF r := by
  obtain ⟨h1, h2, h3, h4⟩ := blank_not hc
  have hs : signF (r ++ c :: y) = signF r := by
    unfold signF
    have : ∀ l : List Str, (∀ x ∈ l, c ∉ x) → l.find? (fun x => x.isPrefixOf (r ++ c :: y)) = l.find? fun x => x.isPrefixOf r := by
      intro l
      induction l with
      | nil => intro _; rfl
      | cons x l ih =>
        intro h
        rw [List.find?_cons, List.find?_cons, pre_stop (h x (by simp)), ih fun z hz => h z (List.mem_cons_of_mem _ hz)]
    exact this SIGNS h4
  unfold nextF
  rw [byt_app hr, tw_stop h3, tw_stop h2, hs]
def preR (l : List Token) (r : Res) : Res := l.foldr Res.cons r
theorem dw_app {p : UInt8 → Bool} {c : UInt8} : ∀ {x y : Str}, x.dropWhile p ≠ [] → (x ++ c :: y).dropWhile p = x.dropWhile p ++ c :: y
  | [], y, h => absurd rfl h
  | d :: x, y, h => by
    simp only [List.cons_append, List.dropWhile_cons] at h ⊢
    split
    · rename_i hd; rw [if_pos hd] at h; exact dw_app h
    · rfl
theorem dw_all {p : UInt8 → Bool} {c : UInt8} (hc : p c = true) : ∀ {x y : Str}, x.dropWhile p = [] → (x ++ c :: y).dropWhile p = y.dropWhile p
  | [], y, _ => by simp [List.dropWhile_cons, hc]
  | d :: x, y, h => by
    simp only [List.cons_append, List.dropWhile_cons] at h ⊢
    split
    · rename_i hd; rw [if_pos hd] at h; exact dw_all hc h
    · rename_i hd; rw [if_neg hd] at h; cases h
theorem go_ne {k a : Nat} {s : Str} {l : List Token} (h : lexGo k a s = .ok l) : l ≠ [] := by
  cases k with
  | zero => rw [lexGo] at h; injection h with h; subst h; simp
  | succ k =>
    rw [lexGo] at h
    simp only at h
    split at h
    · injection h with h; subst h; simp
    · split at h
      · cases h
      · obtain ⟨m, _, rfl⟩ := res_cons h; simp
theorem go_join {c : UInt8} (hc : blankF c = true) (y : Str) : ∀ (k a : Nat) (x : Str), x.length < k → lexGo (x.length + 1 + y.length + 1) a (x ++ c :: y) =
    match lexGo k a x with | .ok l => preR l.dropLast (lexGo (y.length + 1) (a + x.length + 1) y) | .err p e => .err p e := by
  intro k
  induction k with
  | zero => intro a x h; omega
  | succ k ih =>
    intro a x h
    have hlx : (x ++ c :: y).length = x.length + 1 + y.length := by simp; omega
    obtain ⟨X, hX⟩ : ∃ X, X = lexGo (k + 1) a x := ⟨_, rfl⟩
    obtain ⟨Y, hY⟩ : ∃ Y, Y = lexGo (y.length + 1) (a + x.length + 1) y := ⟨_, rfl⟩
    have hY' := hY
    rw [← hX, ← hY]
    rw [lexGo] at hX hY ⊢
    simp only at hX hY ⊢
    by_cases hr : x.dropWhile blankF = []
    · rw [if_pos hr] at hX
      rw [dw_all hc hr]
      subst hX
      simp only [List.dropLast_singleton, preR, List.foldr_nil]
      have hle : (y.dropWhile blankF).length ≤ y.length := (List.dropWhile_suffix _).length_le
      have e1 : a + ((x ++ c :: y).length - (y.dropWhile blankF).length) = a + x.length + 1 + (y.length - (y.dropWhile blankF).length) := by omega
      rw [e1]
      subst hY
      split
      · rfl
      · rename_i hn
        split
        · rfl
        · rename_i he
          have he' : (nextF (y.dropWhile blankF)).2 = 0 := by simpa using he
          obtain ⟨g1, g2, _⟩ := next_len hn he'
          have hd : ((y.dropWhile blankF).drop (nextF (y.dropWhile blankF)).1.text.length).length < y.length := by simp; omega
          rw [go_fuel (x.length + 1 + y.length) _ _ (by omega), go_fuel y.length _ _ hd]
    · have hle : (x.dropWhile blankF).length ≤ x.length := (List.dropWhile_suffix _).length_le
      have hap : (x.dropWhile blankF ++ c :: y).length = (x.dropWhile blankF).length + 1 + y.length := by simp; omega
      have e1 : a + ((x ++ c :: y).length - (x.dropWhile blankF ++ c :: y).length) = a + (x.length - (x.dropWhile blankF).length) := by omega
      rw [if_neg hr] at hX
      rw [dw_app hr, next_stop hc hr, if_neg (by simp), e1]
      clear hY
      generalize hR : x.dropWhile blankF = R at *
      by_cases he : (nextF R).2 = 0
      · obtain ⟨g1, g2, _⟩ := next_len hr he
        rw [if_neg (by simpa using he)] at hX ⊢
        have hdrop : (R ++ c :: y).drop (nextF R).1.text.length = R.drop (nextF R).1.text.length ++ c :: y := List.drop_append_of_le_length g2
        have hd : (R.drop (nextF R).1.text.length).length < x.length := by simp; omega
        have hd2 : (R.drop (nextF R).1.text.length).length = R.length - (nextF R).1.text.length := by simp
        rw [hdrop, go_fuel (x.length + 1 + y.length) _ _ (by simp; omega)]
        have hl2 : (R.drop (nextF R).1.text.length ++ c :: y).length + 1 = (R.drop (nextF R).1.text.length).length + 1 + y.length + 1 := by simp; omega
        rw [hl2, ih _ _ (by omega)]
        have e2 : a + (x.length - R.length) + (nextF R).1.text.length + (R.drop (nextF R).1.text.length).length + 1 = a + x.length + 1 := by omega
        rw [e2, ← hY']
        cases hg : lexGo k (a + (x.length - R.length) + (nextF R).1.text.length) (R.drop (nextF R).1.text.length) with
        | err p e => rw [hg] at hX; subst hX; rfl
        | ok m =>
          have hm := go_ne hg
          rw [hg] at hX; subst hX
          cases m with
          | nil => exact absurd rfl hm
          | cons z m => simp [Res.cons, preR, List.dropLast]
      · rw [if_pos (by simpa using he)] at hX ⊢
        subst hX
        rfl
/-! ### Back -/
theorem tw_idem {p : UInt8 → Bool} : ∀ {s : Str}, (s.takeWhile p).takeWhile p = s.takeWhile p
  | [] => rfl
  | c :: s => by
    rw [List.takeWhile_cons]
    split
    · rename_i h; rw [List.takeWhile_cons, if_pos h, tw_idem]
    · rfl
theorem tw_byt {p : UInt8 → Bool} {s : Str} (hs : s ≠ []) (h : p (byt s 0) = true) : byt (s.takeWhile p) 0 = byt s 0 := by
  cases s with
  | nil => exact absurd rfl hs
  | cons c s => simp [byt] at h; simp [List.takeWhile_cons, h, byt]
theorem sign_self : ∀ x ∈ SIGNS, nextF x = (⟨2, x, 0, 0⟩, 0) ∧ x ≠ [] ∧ blankF (byt x 0) = false := by decide
theorem letter_not_blank {c : UInt8} (h : letterF c = true ∨ digitF c = true) : blankF c = false := by
  cases hb : blankF c with
  | false => rfl
  | true => obtain ⟨h1, h2, _⟩ := blank_not hb; rcases h with h | h <;> simp_all
theorem next_self {r : Str} (hr : r ≠ []) (h : (nextF r).2 = 0) : nextF (nextF r).1.text = ((nextF r).1, 0) ∧ (nextF r).1.pos = 0 ∧ blankF (byt (nextF r).1.text 0) = false := by
  by_cases hl : letterF (byt r 0) = true
  · have ha : alnum (byt r 0) = true := by simp [alnum, hl]
    have hb := tw_byt hr ha
    cases hw : wordF (r.takeWhile alnum) with
    | false => simp [nextF, hl, hw] at h
    | true =>
      have e : nextF r = (⟨0, r.takeWhile alnum, 0, 0⟩, 0) := by simp [nextF, hl, hw]
      rw [e]
      refine ⟨?_, rfl, ?_⟩
      · simp only [nextF, hb, hl, if_true, tw_idem, hw]
      · simp only [hb]; exact letter_not_blank (.inl hl)
  · have hl' : letterF (byt r 0) = false := by simpa using hl
    by_cases hd : digitF (byt r 0) = true
    · have hb := tw_byt hr hd
      cases hn : numOk (r.takeWhile digitF) with
      | false => simp [nextF, hl', hd, hn] at h
      | true =>
        have e : nextF r = (⟨1, r.takeWhile digitF, numV (r.takeWhile digitF), 0⟩, 0) := by simp [nextF, hl', hd, hn]
        rw [e]
        refine ⟨?_, rfl, ?_⟩
        · simp [nextF, hb, hl', hd, tw_idem, hn]
        · simp only [hb]; exact letter_not_blank (.inr hd)
    · have hd' : digitF (byt r 0) = false := by simpa using hd
      cases hg : signF r with
      | none => simp [nextF, hl', hd', hg] at h
      | some x =>
        have e : nextF r = (⟨2, x, 0, 0⟩, 0) := by simp [nextF, hl', hd', hg]
        rw [e]
        obtain ⟨h1, h2, h3⟩ := sign_self x (List.mem_of_find?_eq_some hg)
        exact ⟨h1, rfl, h3⟩
def selfTok (t : Token) : Prop := nextF t.text = ({ t with pos := 0 }, 0) ∧ t.text ≠ [] ∧ blankF (byt t.text 0) = false
theorem go_self : ∀ (k a : Nat) (s : Str) (l : List Token), lexGo k a s = .ok l → ∃ ts e, l = ts ++ [e] ∧ e.kind = 3 ∧ e.text = [] ∧ e.n = 0 ∧ (∀ t ∈ ts, selfTok t ∧ t.kind ≠ 3) ∧ (ts.map fun t => t.text.length).sum ≤ s.length := by
  intro k
  induction k with
  | zero => intro a s l h; rw [lexGo] at h; injection h with h; subst h; exact ⟨[], _, rfl, rfl, rfl, rfl, by simp, by simp⟩
  | succ k ih =>
    intro a s l h
    rw [lexGo] at h
    simp only at h
    split at h
    · injection h with h; subst h; exact ⟨[], _, rfl, rfl, rfl, rfl, by simp, by simp⟩
    · rename_i hn
      split at h
      · cases h
      · rename_i he
        have he' : (nextF (s.dropWhile blankF)).2 = 0 := by simpa using he
        obtain ⟨g1, g2, _⟩ := next_len hn he'
        obtain ⟨q1, _, _⟩ := next_kind he'
        obtain ⟨m, hm, rfl⟩ := res_cons h
        obtain ⟨ts, e, rfl, e1, e2, e3, h3, h4⟩ := ih _ _ _ hm
        obtain ⟨z1, z2, z3⟩ := next_self hn he'
        have hle : (s.dropWhile blankF).length ≤ s.length := (List.dropWhile_suffix _).length_le
        refine ⟨_ :: ts, e, rfl, e1, e2, e3, fun t ht => ?_, ?_⟩
        · rcases List.mem_cons.1 ht with rfl | ht
          · refine ⟨⟨?_, List.length_pos_iff.1 g1, z3⟩, q1⟩
            simp only
            rw [z1]
            have : ({ kind := (nextF (s.dropWhile blankF)).1.kind, text := (nextF (s.dropWhile blankF)).1.text, n := (nextF (s.dropWhile blankF)).1.n, pos := 0 } : Token) = (nextF (s.dropWhile blankF)).1 := by rw [← z2]
            rw [this]
          · exact h3 t ht
        · simp only [List.map_cons, List.sum_cons]
          simp only [List.length_drop] at h4
          omega
/-- the text of tokens -/
def joinT : List Token → Str
  | [] => []
  | [t] => t.text
  | t :: u :: r => t.text ++ 32 :: joinT (u :: r)
def textF (l : List Token) : Str := joinT (l.filter fun t => decide (t.kind ≠ 3))
def likeT (x y : Token) : Prop := x.kind = y.kind ∧ x.text = y.text ∧ x.n = y.n
def LikeL : List Token → List Token → Prop
  | [], [] => True
  | x :: l, y :: m => likeT x y ∧ LikeL l m
  | _, _ => False
theorem go_one {t : Token} (h : selfTok t) (a : Nat) : lexGo (t.text.length + 1) a t.text = .ok [{ t with pos := a }, ⟨3, [], 0, a + t.text.length⟩] := by
  obtain ⟨h1, h2, h3⟩ := h
  have hd : t.text.dropWhile blankF = t.text := by
    cases hs : t.text with
    | nil => exact absurd hs h2
    | cons c s => rw [hs] at h3; simp [byt] at h3; simp [List.dropWhile_cons, h3]
  rw [lexGo]
  simp only [hd, h1, if_neg h2]
  have hz : ∃ j, t.text.length = j + 1 := ⟨t.text.length - 1, by have := List.length_pos_iff.2 h2; omega⟩
  obtain ⟨j, hj⟩ := hz
  simp only [ne_eq, not_true_eq_false, if_false, Nat.sub_self, Nat.add_zero, List.drop_length]
  rw [hj, lexGo]
  simp [Res.cons]
theorem lex_text : ∀ (ts : List Token) (a : Nat), (∀ t ∈ ts, selfTok t) → ∃ l e, lexGo ((joinT ts).length + 1) a (joinT ts) = .ok (l ++ [e]) ∧ LikeL l ts ∧ e.kind = 3 ∧ e.text = [] ∧ e.n = 0
  | [], a, _ => ⟨[], _, by simp [joinT, lexGo]; rfl, trivial, rfl, rfl, rfl⟩
  | [t], a, h => ⟨[{ t with pos := a }], _, go_one (h t (by simp)) a, ⟨⟨rfl, rfl, rfl⟩, trivial⟩, rfl, rfl, rfl⟩
  | t :: u :: r, a, h => by
    obtain ⟨l, e, h1, h2, h3, h4, h5⟩ := lex_text (u :: r) (a + t.text.length + 1) fun x hx => h x (List.mem_cons_of_mem _ hx)
    have hj := go_join (c := 32) (by decide) (joinT (u :: r)) (t.text.length + 1) a t.text (by omega)
    rw [go_one (h t (by simp)) a, h1] at hj
    refine ⟨{ t with pos := a } :: l, e, ?_, ⟨⟨rfl, rfl, rfl⟩, h2⟩, h3, h4, h5⟩
    have hl : (joinT (t :: u :: r)).length + 1 = t.text.length + 1 + (joinT (u :: r)).length + 1 := by simp [joinT]; omega
    rw [hl]
    show lexGo _ a (t.text ++ 32 :: joinT (u :: r)) = _
    rw [hj]
    simp [preR, List.dropLast, Res.cons]
/-! ### Words -/
theorem tw_full {p : UInt8 → Bool} : ∀ {s : Str}, s.all p = true → s.takeWhile p = s
  | [], _ => rfl
  | c :: s, h => by
    simp only [List.all_cons, Bool.and_eq_true] at h
    rw [List.takeWhile_cons, if_pos h.1, tw_full h.2]
theorem num_digit {t : Str} (h : numOk t = true) : t ≠ [] ∧ t.all digitF = true ∧ digitF (byt t 0) = true ∧ letterF (byt t 0) = false := by
  simp only [numOk, Bool.and_eq_true] at h
  obtain ⟨⟨⟨⟨h1, h2⟩, _⟩, _⟩, _⟩ := h
  have hne : t ≠ [] := by simpa using h1
  cases t with
  | nil => exact absurd rfl hne
  | cons c t =>
    have hc : digitF c = true := by simp only [List.all_cons, Bool.and_eq_true] at h2; exact h2.1
    refine ⟨hne, h2, hc, ?_⟩
    show letterF c = false
    simp only [digitF, letterF, Bool.and_eq_true, decide_eq_true_eq] at hc ⊢
    have h3 := hc.2
    have : ¬ (97 : UInt8) ≤ c := fun h4 => absurd (UInt8.le_trans h4 h3) (by decide)
    simp [this]
theorem word_letter {t : Str} (h : wordF t = true) : t ≠ [] ∧ t.all alnum = true ∧ letterF (byt t 0) = true ∧ t.length ≤ 20 := by
  simp only [wordF, Bool.and_eq_true] at h
  obtain ⟨⟨⟨h1, h2⟩, h3⟩, h4⟩ := h
  exact ⟨by simpa using h1, h4, h2, by simpa using h3⟩
theorem self_word {t : Str} (h : wordF t = true) (a : Int) : selfTok ⟨0, t, 0, a⟩ := by
  obtain ⟨h1, h2, h3, _⟩ := word_letter h
  refine ⟨?_, h1, letter_not_blank (.inl h3)⟩
  simp [nextF, h3, tw_full h2, h]
theorem self_num {t : Str} (h : numOk t = true) (a : Int) : selfTok ⟨1, t, numV t, a⟩ := by
  obtain ⟨h1, h2, h3, h4⟩ := num_digit h
  refine ⟨?_, h1, letter_not_blank (.inr h3)⟩
  simp [nextF, h3, h4, tw_full h2, h]
theorem word_lex {t : Str} (h : wordF t = true) : lexF t = .ok [⟨0, t, 0, 0⟩, ⟨3, [], 0, t.length⟩] := by
  have hl := (word_letter h).2.2.2
  have := go_one (self_word h 0) 0
  simp only [lexF, if_neg (show ¬ t.length > 4000 by omega)]
  simpa using this
theorem num_len {t : Str} (h : numOk t = true) : t.length ≤ 16 := by
  simp only [numOk, Bool.and_eq_true, decide_eq_true_eq] at h
  exact h.1.2
theorem num_lex {t : Str} (h : numOk t = true) : lexF t = .ok [⟨1, t, numV t, 0⟩, ⟨3, [], 0, t.length⟩] := by
  have hl := num_len h
  have := go_one (self_num h 0) 0
  simp only [lexF, if_neg (show ¬ t.length > 4000 by omega)]
  simpa using this
theorem next_whole {r : Str} (he : (nextF r).2 = 0) (ht : (nextF r).1.text = r) : (decide ((nextF r).1.kind = 0) = wordF r) ∧ (decide ((nextF r).1.kind = 1) = numOk r) ∧ (numOk r = true → (nextF r).1.n = numV r) := by
  cases hw : wordF r with
  | true =>
    have h1 := (self_word hw 0).1
    have hl := (word_letter hw).2.2.1
    simp only at h1
    refine ⟨by simp [h1], ?_⟩
    cases hn : numOk r with
    | true => have := (num_digit hn).2.2.2; rw [hl] at this; cases this
    | false => simp [h1]
  | false =>
    cases hn : numOk r with
    | true => have h1 := (self_num hn 0).1; simp only at h1; simp [h1]
    | false =>
      unfold nextF at he ht ⊢
      split at he
      · rename_i hl
        split at he
        · rename_i h2
          simp only [hl, h2, if_true] at ht
          rw [ht, hw] at h2; cases h2
        · simp at he
      · rename_i hl
        split at he
        · rename_i hd
          split at he
          · rename_i h2
            simp only [hl, hd, h2, if_true] at ht
            have ht' : r.takeWhile digitF = r := by simpa using ht
            rw [ht', hn] at h2; cases h2
          · simp at he
        · rename_i hd
          cases hg : signF r with
          | none => rw [hg] at he; simp at he
          | some x => simp [hl, hd, hg]
/-- a whole token -/
theorem lex_two {t : Str} {x y : Token} (h : lexF t = .ok [x, y]) : (x.text = t → (decide (x.kind = 0) = wordF t) ∧ (decide (x.kind = 1) = numOk t) ∧ (numOk t = true → x.n = numV t)) := by
  intro ht
  unfold lexF at h
  split at h
  · cases h
  · rw [lexGo] at h
    simp only at h
    split at h
    · injection h with h; cases h
    · rename_i hn
      split at h
      · cases h
      · rename_i he
        have he' : (nextF (t.dropWhile blankF)).2 = 0 := by simpa using he
        obtain ⟨g1, g2, _⟩ := next_len hn he'
        obtain ⟨m, hm, h2⟩ := res_cons h
        injection h2 with h2 _
        have h3 : (nextF (t.dropWhile blankF)).1.text = t := by rw [h2] at ht; exact ht
        have hs : t.dropWhile blankF = t := (List.dropWhile_suffix _).eq_of_length_le (by rw [h3] at g2; exact g2)
        rw [hs] at h2 he' h3
        have := next_whole he' h3
        rw [h2]
        exact this
/-! ### Errors -/
theorem dw_take {p : UInt8 → Bool} : ∀ {s : Str} {q : Nat}, (s.take q).dropWhile p = (s.dropWhile p).take (q - (s.length - (s.dropWhile p).length))
  | [], q => by simp
  | c :: s, 0 => by simp
  | c :: s, q + 1 => by
    have hle : (s.dropWhile p).length ≤ s.length := (List.dropWhile_suffix _).length_le
    rw [List.take_succ_cons, List.dropWhile_cons, List.dropWhile_cons]
    split
    · rw [dw_take]
      congr 1
      simp only [List.length_cons]
      omega
    · simp
theorem tw_take {p : UInt8 → Bool} : ∀ {s : Str} {m : Nat}, (s.takeWhile p).length ≤ m → (s.take m).takeWhile p = s.takeWhile p
  | [], m, _ => by simp
  | c :: s, 0, h => by have := List.eq_nil_of_length_eq_zero (Nat.le_zero.1 h); simp [this]
  | c :: s, m + 1, h => by
    rw [List.take_succ_cons, List.takeWhile_cons, List.takeWhile_cons]
    rw [List.takeWhile_cons] at h
    split
    · rename_i hc; rw [if_pos hc] at h; rw [tw_take (by simpa using h)]
    · rfl
theorem sign_take {r x : Str} {m : Nat} (h : signF r = some x) (hm : x.length ≤ m) : signF (r.take m) = some x := by
  unfold signF at h ⊢
  rw [List.find?_eq_some_iff_append] at h ⊢
  obtain ⟨h1, as, bs, h2, h3⟩ := h
  have key : ∀ z : Str, z.isPrefixOf (r.take m) = true ↔ z.isPrefixOf r = true ∧ z.length ≤ m := fun z => by
    rw [List.isPrefixOf_iff_prefix, List.isPrefixOf_iff_prefix, List.prefix_take_iff]
  refine ⟨(key x).2 ⟨h1, hm⟩, as, bs, h2, fun a ha => ?_⟩
  have h4 := h3 a ha
  cases h5 : a.isPrefixOf (r.take m) with
  | false => rfl
  | true => rw [((key a).1 h5).1] at h4; exact h4
theorem next_take {r : Str} {m : Nat} (hr : r ≠ []) (he : (nextF r).2 = 0) (hm : (nextF r).1.text.length ≤ m) : nextF (r.take m) = nextF r := by
  obtain ⟨g1, _, _⟩ := next_len hr he
  have hb : byt (r.take m) 0 = byt r 0 := by
    cases r with
    | nil => exact absurd rfl hr
    | cons c r => cases m with | zero => omega | succ m => rfl
  cases hl : letterF (byt r 0) with
  | true =>
    cases hw : wordF (r.takeWhile alnum) with
    | false => simp [nextF, hl, hw] at he
    | true =>
      have h2 : (r.takeWhile alnum).length ≤ m := by simpa [nextF, hl, hw] using hm
      simp [nextF, hb, hl, tw_take h2]
  | false =>
    cases hd : digitF (byt r 0) with
    | true =>
      cases hn : numOk (r.takeWhile digitF) with
      | false => simp [nextF, hl, hd, hn] at he
      | true =>
        have h2 : (r.takeWhile digitF).length ≤ m := by simpa [nextF, hl, hd, hn] using hm
        simp [nextF, hb, hl, hd, tw_take h2]
    | false =>
      cases hg : signF r with
      | none => simp [nextF, hl, hd, hg] at he
      | some x =>
        have h2 : x.length ≤ m := by simpa [nextF, hl, hd, hg] using hm
        simp [nextF, hb, hl, hd, hg, sign_take hg h2]
theorem next_err {r : Str} (he : (nextF r).2 ≠ 0) : (nextF r).2 = 3 ∨ (nextF r).2 = 10 ∨ (nextF r).2 = 11 := by
  unfold nextF at he ⊢
  split
  · split <;> simp_all
  · split
    · split <;> simp_all
    · split <;> simp_all
theorem res_err {t : Token} {r : Res} {p e : Int} (h : Res.cons t r = .err p e) : r = .err p e := by
  cases r with
  | ok m => simp [Res.cons] at h
  | err a b => simpa [Res.cons] using h
theorem dw_idem {p : UInt8 → Bool} : ∀ {s : Str}, (s.dropWhile p).dropWhile p = s.dropWhile p
  | [] => rfl
  | c :: s => by
    rw [List.dropWhile_cons]
    split
    · exact dw_idem
    · rename_i h; rw [List.dropWhile_cons, if_neg h]
theorem go_err : ∀ (k a : Nat) (s : Str) (p e : Int), s.length < k → lexGo k a s = .err p e → ∃ q : Nat, p = ((a + q : Nat) : Int) ∧ q < s.length ∧ (e = 3 ∨ e = 10 ∨ e = 11) ∧ (∃ l, lexGo ((s.take q).length + 1) a (s.take q) = .ok l) ∧ lexGo ((s.drop q).length + 1) 0 (s.drop q) = .err 0 e := by
  intro k
  induction k with
  | zero => intro a s p e h; omega
  | succ k ih =>
    intro a s p e hk h
    rw [lexGo] at h
    simp only at h
    have hle : (s.dropWhile blankF).length ≤ s.length := (List.dropWhile_suffix _).length_le
    have hdr := dw_drop (p := blankF) (s := s)
    split at h
    · cases h
    · rename_i hn
      have hpos := List.length_pos_iff.2 hn
      split at h
      · rename_i he
        injection h with h1 h2
        refine ⟨s.length - (s.dropWhile blankF).length, h1.symm, by omega, h2 ▸ next_err he, ?_, ?_⟩
        · rw [lexGo]
          simp only [dw_take, Nat.sub_self, List.take_zero, if_true]
          exact ⟨_, rfl⟩
        · rw [← hdr, lexGo]
          simp only [dw_idem, if_neg hn, if_pos he, Nat.sub_self, Nat.add_zero]
          rw [h2]; rfl
      · rename_i he
        have he' : (nextF (s.dropWhile blankF)).2 = 0 := by simpa using he
        obtain ⟨g1, g2, _⟩ := next_len hn he'
        have h2 := res_err h
        obtain ⟨q, rfl, q2, q3, ⟨l, q4⟩, q5⟩ := ih _ _ _ _ (by simp; omega) h2
        simp only [List.length_drop] at q2
        refine ⟨s.length - (s.dropWhile blankF).length + (nextF (s.dropWhile blankF)).1.text.length + q, by omega, by omega, q3, ?_, ?_⟩
        · rw [lexGo]
          have e1 : s.length - (s.dropWhile blankF).length + (nextF (s.dropWhile blankF)).1.text.length + q - (s.length - (s.dropWhile blankF).length) = (nextF (s.dropWhile blankF)).1.text.length + q := by omega
          have hne : ¬ ((s.dropWhile blankF).take ((nextF (s.dropWhile blankF)).1.text.length + q)) = [] := by
            intro h5
            rcases List.take_eq_nil_iff.1 h5 with h5 | h5
            · omega
            · exact hn h5
          have hnt := next_take (m := (nextF (s.dropWhile blankF)).1.text.length + q) hn he' (by omega)
          have e2 : a + ((s.take (s.length - (s.dropWhile blankF).length + (nextF (s.dropWhile blankF)).1.text.length + q)).length - ((s.dropWhile blankF).take ((nextF (s.dropWhile blankF)).1.text.length + q)).length) = a + (s.length - (s.dropWhile blankF).length) := by
            simp only [List.length_take]; omega
          have e3 : ((s.dropWhile blankF).take ((nextF (s.dropWhile blankF)).1.text.length + q)).drop (nextF (s.dropWhile blankF)).1.text.length = ((s.dropWhile blankF).drop (nextF (s.dropWhile blankF)).1.text.length).take q := by
            rw [List.drop_take]; congr 1; omega
          simp only [dw_take, e1, hnt, if_neg hne, if_neg he, e2, e3]
          rw [go_fuel, q4]
          · exact ⟨_, rfl⟩
          · simp only [List.length_take, List.length_drop]; omega
        · have e4 : s.drop (s.length - (s.dropWhile blankF).length + (nextF (s.dropWhile blankF)).1.text.length + q) = ((s.dropWhile blankF).drop (nextF (s.dropWhile blankF)).1.text.length).drop q := by
            rw [List.drop_drop]
            conv => rhs; rw [hdr]
            rw [List.drop_drop]
            congr 1
            rw [← hdr]; omega
          rw [e4]; exact q5
theorem lex_err {s : Str} {p e : Int} (hs : s.length ≤ 4000) (h : lexF s = .err p e) : ∃ q : Nat, p = q ∧ q < s.length ∧ (e = 3 ∨ e = 10 ∨ e = 11) ∧ (∃ l, lexF (s.take q) = .ok l) ∧ lexF (s.drop q) = .err 0 e := by
  unfold lexF at h ⊢
  rw [if_neg (by omega)] at h
  obtain ⟨q, h1, h2, h3, h4, h5⟩ := go_err _ _ _ _ _ (by omega) h
  refine ⟨q, by simpa using h1, h2, h3, ?_, ?_⟩
  · rw [if_neg (by simp; omega)]; exact h4
  · rw [if_neg (by simp; omega)]; exact h5
theorem dw_nil {p : UInt8 → Bool} : ∀ {s : Str}, s.all p = true → s.dropWhile p = []
  | [], _ => rfl
  | c :: s, h => by
    simp only [List.all_cons, Bool.and_eq_true] at h
    rw [List.dropWhile_cons, if_pos h.1, dw_nil h.2]
theorem pre_ok (l m : List Token) : preR l (.ok m) = .ok (l ++ m) := by
  induction l with
  | nil => rfl
  | cons t l ih => show Res.cons t (preR l (.ok m)) = _; rw [ih]; rfl
theorem lex_fill {t y : Str} {c : UInt8} (hc : blankF c = true) (hy : y.all blankF = true) (hl : t.length + 1 + y.length ≤ 4000) :
    (∀ l, lexF t = .ok l → ∃ m, lexF (t ++ c :: y) = .ok m ∧ m.length = l.length) ∧ (∀ p e, lexF t = .err p e → lexF (t ++ c :: y) = .err p e) := by
  have h := go_join hc y (t.length + 1) 0 t (by omega)
  have e1 : lexF (t ++ c :: y) = lexGo (t.length + 1 + y.length + 1) 0 (t ++ c :: y) := by
    unfold lexF
    rw [if_neg (by simp; omega)]
    congr 1; simp; omega
  have e2 : lexF t = lexGo (t.length + 1) 0 t := by unfold lexF; rw [if_neg (by omega)]
  rw [e1, e2, h]
  refine ⟨fun l hl2 => ?_, fun p e hl2 => ?_⟩
  · have hne := go_ne hl2
    rw [hl2]
    simp only
    rw [lexGo]
    simp only [dw_nil hy, if_true, pre_ok]
    refine ⟨_, rfl, ?_⟩
    have := List.length_pos_iff.2 hne
    simp; omega
  · rw [hl2]
end LexSpec
