/-
  Equal expressions and lists
-/
import Derived.Test.YtionjeodcmnneaaWalk3
import Derived.Test.YtionjeodcmnneaaLfEqA
set_option linter.unusedVariables false
set_option linter.unusedSimpArgs false
set_option maxHeartbeats 8000000
namespace Go.Proofs.Ytionjeodcmnneaa
open Lf Go
attribute [local irreducible] PureOp EffOp Ev RG W Then InBlock Lf.Fin nth App InitE Pick SubE SubF SubG EvL EvD EvP EvR ResL Lf.Lex SubR SubBR RA RAll EvC FinO FinM ResM FinB ResD

/-! ### the data -/
structure Let where
  name : Str
  body : Exp
instance : Inhabited Let := ⟨⟨[], default⟩⟩
structure Cov where
  name : Str
  must : Exp
  grace : Int
instance : Inhabited Cov := ⟨⟨[], default, 0⟩⟩
structure Cl where
  day : Int
  price : Int
deriving DecidableEq
instance : Inhabited Cl := ⟨⟨0, 0⟩⟩
def encL (x : Let) : List Cell := [.str x.name, .int .i64 x.body.op, .int .i64 x.body.n, .int .i64 x.body.u, .str x.body.s, .sl (x.body.args.map encE)]
def encV (x : Cov) : List Cell := [.str x.name, .int .i64 x.must.op, .int .i64 x.must.n, .int .i64 x.must.u, .str x.must.s, .sl (x.must.args.map encE), .int .i64 x.grace]
def encC (x : Cl) : List Cell := [.int .i64 x.day, .int .i64 x.price]
abbrev aL (x : Let) : PV := .agg (encL x)
abbrev aV (x : Cov) : PV := .agg (encV x)
abbrev aC (x : Cl) : PV := .agg (encC x)
abbrev slL (l : List Let) : PV := .one (.sl (l.map encL))
abbrev slV (l : List Cov) : PV := .one (.sl (l.map encV))
abbrev slC (l : List Cl) : PV := .one (.sl (l.map encC))
abbrev c8 (n : Int) : PV := .one (.int .u8 n)
/-! ### equal lists -/
def eqL {α β : Type} (p : α → β → Bool) : List α → List β → Bool
  | [], [] => true
  | x :: r, y :: t => p x y && eqL p r t
  | _, _ => false
theorem eqL_len {α β : Type} {p : α → β → Bool} : ∀ {a : List α} {b : List β}, eqL p a b = true → a.length = b.length
  | [], [], _ => rfl
  | x :: r, y :: t, h => by
    rw [eqL, Bool.and_eq_true] at h
    rw [List.length_cons, List.length_cons, eqL_len h.2]
  | [], y :: t, h => by simp [eqL] at h
  | x :: r, [], h => by simp [eqL] at h
theorem eqL_nlen {α β : Type} {p : α → β → Bool} {a : List α} {b : List β} (h : ¬ a.length = b.length) : eqL p a b = false := by
  cases hc : eqL p a b with
  | false => rfl
  | true => exact absurd (eqL_len hc) h
theorem nth_cons0 {α : Type} [Inhabited α] {x : α} {r : List α} : nth (x :: r) 0 = x := by simp [nth]
theorem nth_cons1 {α : Type} [Inhabited α] {x : α} {r : List α} {k : Nat} : nth (x :: r) (k + 1) = nth r k := by simp [nth]
theorem eqL_iff {α β : Type} [Inhabited α] [Inhabited β] {p : α → β → Bool} : ∀ {a : List α} {b : List β}, a.length = b.length → (eqL p a b = true ↔ ∀ j, j < a.length → p (nth a j) (nth b j) = true)
  | [], [], _ => by simp [eqL]
  | x :: r, y :: t, h => by
    rw [eqL, Bool.and_eq_true, eqL_iff (by simpa using h)]
    constructor
    · rintro ⟨h1, h2⟩ j hj
      cases j with
      | zero => rw [nth_cons0, nth_cons0]; exact h1
      | succ j => rw [nth_cons1, nth_cons1]; exact h2 j (by simpa using hj)
    · intro h1
      refine ⟨?_, fun j hj => ?_⟩
      · have := h1 0 (by simp); rwa [nth_cons0, nth_cons0] at this
      · have := h1 (j + 1) (by simpa using hj); rwa [nth_cons1, nth_cons1] at this
theorem eqL_true {α β : Type} [Inhabited α] [Inhabited β] {p : α → β → Bool} {a : List α} {b : List β} (hl : a.length = b.length) (h : ∀ j, j < a.length → p (nth a j) (nth b j) = true) : eqL p a b = true := (eqL_iff hl).2 h
theorem eqL_false {α β : Type} [Inhabited α] [Inhabited β] {p : α → β → Bool} {a : List α} {b : List β} {j : Nat} (hj : j < a.length) (h : p (nth a j) (nth b j) = false) : eqL p a b = false := by
  cases hc : eqL p a b with
  | false => rfl
  | true => have := (eqL_iff (eqL_len hc)).1 hc j hj; rw [h] at this; cases this
theorem upto_succ {q : Nat → Bool} {k : Nat} (h : ∀ j, j < k → q j = true) (hk : q k = true) : ∀ j, j < k + 1 → q j = true := by
  intro j hj
  by_cases e : j = k
  · subst e; exact hk
  · exact h j (by omega)
mutual
def sameF : Exp → Exp → Bool
  | .mk op n u s l, .mk op' n' u' s' l' => decide (op = op') && decide (n = n') && decide (u = u') && decide (s = s') && sameFs l l'
def sameFs : List Exp → List Exp → Bool
  | [], [] => true
  | e :: r, e' :: r' => sameF e e' && sameFs r r'
  | _, _ => false
end
theorem sameFs_eq : ∀ l l', sameFs l l' = eqL sameF l l'
  | [], [] => rfl
  | e :: r, e' :: r' => by rw [sameFs, eqL, sameFs_eq r r']
  | [], e' :: r' => rfl
  | e :: r, [] => rfl
def letF (x y : Let) : Bool := decide (x.name = y.name) && sameF x.body y.body
def covF (x y : Cov) : Bool := decide (x.name = y.name) && decide (x.grace = y.grace) && sameF x.must y.must

theorem eqfE_ok (a b : List Exp) (f : Nat) (caps : List Cell) (p : Exp → Exp → Bool) (ha : a.length ≤ 9223372036854775807) (hp : ∀ x ∈ a, ∀ y ∈ b, ACalls Try.prog f (aE x :: aE y :: caps.map PV.one) (.pv (cB (p x y)))) : ACalls Try.prog 50 [slE a, slE b, .one (.fn f caps)] (.pv (cB (eqL p a b))) := by
  by_cases hlen : a.length = b.length
  case neg =>
    rw [eqL_nlen hlen]
    refine ACalls.of_W (qs := [cB false]) [6] 32 Try.func50 (by kernel_rfl) rfl rfl rfl fun G => ?_
    refine W.initA (hw := ?_)
    repeat' (first
      | apply RG.nil
      | apply Lex.nil
      | apply Then.n
      | apply Then.r
      | apply Then.x
      | apply InBlock.n
      | apply InBlock.r
      | apply InBlock.hit
      | (apply InBlock.miss; exact rfl)
      | apply W.seq
      | apply W.region
      | apply W.block
      | apply W.skip
      | apply W.ret
      | apply W.exit
      | ((first | apply U_); (first
    | exact QX.Move TYok
    | exact QX.Asg TYok
    | exact QX.Ld TYok
    | exact QX.Bin TYok
    | exact QX.Un TYok
    | exact QX.Len TYok
    | exact QX.Idx TYok); exact rfl)
      | refine SX.Alloc TYok (h := ?_)
      | refine SX.Store TYok (h := ?_)
      | (refine W.condA (ht := fun hb => ?_) (hf := fun hb => ?_) <;> (try simp at hb) <;> (try (exfalso; omega))))
    exact Fin.ret ResL.auto
  refine ACalls.of_W (qs := [cB (eqL p a b)]) [6] 32 Try.func50 (by kernel_rfl) rfl rfl rfl fun G => ?_
  refine W.initA (hw := ?_)
  repeat' (first
    | apply RG.nil
    | apply Lex.nil
    | apply Then.n
    | apply Then.r
    | apply Then.x
    | apply InBlock.n
    | apply InBlock.r
    | apply InBlock.hit
    | (apply InBlock.miss; exact rfl)
    | apply W.seq
    | apply W.region
    | apply W.block
    | apply W.skip
    | apply W.ret
    | apply W.exit
    | ((first | apply U_); (first
    | exact QX.Move TYok
    | exact QX.Asg TYok
    | exact QX.Ld TYok
    | exact QX.Bin TYok
    | exact QX.Un TYok
    | exact QX.Len TYok
    | exact QX.Idx TYok); exact rfl)
    | refine SX.Alloc TYok (h := ?_)
    | refine SX.Store TYok (h := ?_)
    | (refine W.condA (ht := fun hb => ?_) (hf := fun hb => ?_) <;> (try simp at hb) <;> (try (exfalso; omega))))
  apply W.loopP (σ := Nat) 32 [1, 2, 15, 16] (fun k => k ≤ a.length ∧ (∀ j, j < k → p (nth a j) (nth b j) = true)) (fun k => [(17, vI k)]) (fun _ => []) (fun k => a.length - k) (0)
  case hp => repeat (first | exact Pick.nil | apply Pick.cons rfl)
  case h0 =>
    refine ⟨⟨by simp, fun j hj => absurd hj (by omega)⟩, ?_⟩
    exact Le.auto
  case round =>
    rintro k ⟨h1, h2⟩
    apply W.norm (by repeat (first | exact App.nil | apply App.cons))
    by_cases hk : k < a.length
    · have q := hp (nth a k) (nth_mem hk) (nth b k) (nth_mem (by omega))
      cases hc : p (nth a k) (nth b k) with
      | true =>
        rw [hc] at q
        repeat' (first
          | apply RG.nil
          | apply Lex.nil
          | apply Then.n
          | apply Then.r
          | apply Then.x
          | apply InBlock.n
          | apply InBlock.r
          | apply InBlock.hit
          | (apply InBlock.miss; exact rfl)
          | apply W.seq
          | apply W.region
          | apply W.block
          | apply W.skip
          | apply W.ret
          | apply W.exit
          | ((first | apply U_); (first
    | exact QX.Move TYok
    | exact QX.Asg TYok
    | exact QX.Ld TYok
    | exact QX.Bin TYok
    | exact QX.Un TYok
    | exact QX.Len TYok
    | exact QX.Idx TYok
    | (apply Q_callvA (q); exact Ev.auto; exact EvA.auto)); exact rfl)
          | refine SX.Alloc TYok (h := ?_)
          | refine SX.Store TYok (h := ?_)
          | (refine W.condA (ht := fun hb => ?_) (hf := fun hb => ?_) <;> (try simp at hb) <;> (try (exfalso; omega))))
        refine ⟨k + 1, ⟨by omega, upto_succ (q := fun j => p (nth a j) (nth b j)) h2 hc⟩, ?_, ?_⟩
        · exact Le.auto
        · (try simp only); omega
      | false =>
        rw [hc] at q
        rw [eqL_false hk hc]
        repeat' (first
          | apply RG.nil
          | apply Lex.nil
          | apply Then.n
          | apply Then.r
          | apply Then.x
          | apply InBlock.n
          | apply InBlock.r
          | apply InBlock.hit
          | (apply InBlock.miss; exact rfl)
          | apply W.seq
          | apply W.region
          | apply W.block
          | apply W.skip
          | apply W.ret
          | apply W.exit
          | ((first | apply U_); (first
    | exact QX.Move TYok
    | exact QX.Asg TYok
    | exact QX.Ld TYok
    | exact QX.Bin TYok
    | exact QX.Un TYok
    | exact QX.Len TYok
    | exact QX.Idx TYok
    | (apply Q_callvA (q); exact Ev.auto; exact EvA.auto)); exact rfl)
          | refine SX.Alloc TYok (h := ?_)
          | refine SX.Store TYok (h := ?_)
          | (refine W.condA (ht := fun hb => ?_) (hf := fun hb => ?_) <;> (try simp at hb) <;> (try (exfalso; omega))))
        exact Fin.ret ResL.auto
    · obtain rfl : k = a.length := by omega
      rw [eqL_true hlen h2]
      repeat' (first
        | apply RG.nil
        | apply Lex.nil
        | apply Then.n
        | apply Then.r
        | apply Then.x
        | apply InBlock.n
        | apply InBlock.r
        | apply InBlock.hit
        | (apply InBlock.miss; exact rfl)
        | apply W.seq
        | apply W.region
        | apply W.block
        | apply W.skip
        | apply W.ret
        | apply W.exit
        | ((first | apply U_); (first
    | exact QX.Move TYok
    | exact QX.Asg TYok
    | exact QX.Ld TYok
    | exact QX.Bin TYok
    | exact QX.Un TYok
    | exact QX.Len TYok
    | exact QX.Idx TYok); exact rfl)
        | refine SX.Alloc TYok (h := ?_)
        | refine SX.Store TYok (h := ?_)
        | (refine W.condA (ht := fun hb => ?_) (hf := fun hb => ?_) <;> (try simp at hb) <;> (try (exfalso; omega))))
      exact Fin.ret ResL.auto
theorem eqfL_ok (a b : List Let) (f : Nat) (caps : List Cell) (p : Let → Let → Bool) (ha : a.length ≤ 9223372036854775807) (hp : ∀ x ∈ a, ∀ y ∈ b, ACalls Try.prog f (aL x :: aL y :: caps.map PV.one) (.pv (cB (p x y)))) : ACalls Try.prog 29 [slL a, slL b, .one (.fn f caps)] (.pv (cB (eqL p a b))) := by
  by_cases hlen : a.length = b.length
  case neg =>
    rw [eqL_nlen hlen]
    refine ACalls.of_W (qs := [cB false]) [6] 32 Try.func29 (by kernel_rfl) rfl rfl rfl fun G => ?_
    refine W.initA (hw := ?_)
    repeat' (first
      | apply RG.nil
      | apply Lex.nil
      | apply Then.n
      | apply Then.r
      | apply Then.x
      | apply InBlock.n
      | apply InBlock.r
      | apply InBlock.hit
      | (apply InBlock.miss; exact rfl)
      | apply W.seq
      | apply W.region
      | apply W.block
      | apply W.skip
      | apply W.ret
      | apply W.exit
      | ((first | apply U_); (first
    | exact QX.Move TYok
    | exact QX.Asg TYok
    | exact QX.Ld TYok
    | exact QX.Bin TYok
    | exact QX.Un TYok
    | exact QX.Len TYok
    | exact QX.Idx TYok); exact rfl)
      | refine SX.Alloc TYok (h := ?_)
      | refine SX.Store TYok (h := ?_)
      | (refine W.condA (ht := fun hb => ?_) (hf := fun hb => ?_) <;> (try simp at hb) <;> (try (exfalso; omega))))
    exact Fin.ret ResL.auto
  refine ACalls.of_W (qs := [cB (eqL p a b)]) [6] 32 Try.func29 (by kernel_rfl) rfl rfl rfl fun G => ?_
  refine W.initA (hw := ?_)
  repeat' (first
    | apply RG.nil
    | apply Lex.nil
    | apply Then.n
    | apply Then.r
    | apply Then.x
    | apply InBlock.n
    | apply InBlock.r
    | apply InBlock.hit
    | (apply InBlock.miss; exact rfl)
    | apply W.seq
    | apply W.region
    | apply W.block
    | apply W.skip
    | apply W.ret
    | apply W.exit
    | ((first | apply U_); (first
    | exact QX.Move TYok
    | exact QX.Asg TYok
    | exact QX.Ld TYok
    | exact QX.Bin TYok
    | exact QX.Un TYok
    | exact QX.Len TYok
    | exact QX.Idx TYok); exact rfl)
    | refine SX.Alloc TYok (h := ?_)
    | refine SX.Store TYok (h := ?_)
    | (refine W.condA (ht := fun hb => ?_) (hf := fun hb => ?_) <;> (try simp at hb) <;> (try (exfalso; omega))))
  apply W.loopP (σ := Nat) 32 [1, 2, 15, 16] (fun k => k ≤ a.length ∧ (∀ j, j < k → p (nth a j) (nth b j) = true)) (fun k => [(17, vI k)]) (fun _ => []) (fun k => a.length - k) (0)
  case hp => repeat (first | exact Pick.nil | apply Pick.cons rfl)
  case h0 =>
    refine ⟨⟨by simp, fun j hj => absurd hj (by omega)⟩, ?_⟩
    exact Le.auto
  case round =>
    rintro k ⟨h1, h2⟩
    apply W.norm (by repeat (first | exact App.nil | apply App.cons))
    by_cases hk : k < a.length
    · have q := hp (nth a k) (nth_mem hk) (nth b k) (nth_mem (by omega))
      cases hc : p (nth a k) (nth b k) with
      | true =>
        rw [hc] at q
        repeat' (first
          | apply RG.nil
          | apply Lex.nil
          | apply Then.n
          | apply Then.r
          | apply Then.x
          | apply InBlock.n
          | apply InBlock.r
          | apply InBlock.hit
          | (apply InBlock.miss; exact rfl)
          | apply W.seq
          | apply W.region
          | apply W.block
          | apply W.skip
          | apply W.ret
          | apply W.exit
          | ((first | apply U_); (first
    | exact QX.Move TYok
    | exact QX.Asg TYok
    | exact QX.Ld TYok
    | exact QX.Bin TYok
    | exact QX.Un TYok
    | exact QX.Len TYok
    | exact QX.Idx TYok
    | (apply Q_callvA (q); exact Ev.auto; exact EvA.auto)); exact rfl)
          | refine SX.Alloc TYok (h := ?_)
          | refine SX.Store TYok (h := ?_)
          | (refine W.condA (ht := fun hb => ?_) (hf := fun hb => ?_) <;> (try simp at hb) <;> (try (exfalso; omega))))
        refine ⟨k + 1, ⟨by omega, upto_succ (q := fun j => p (nth a j) (nth b j)) h2 hc⟩, ?_, ?_⟩
        · exact Le.auto
        · (try simp only); omega
      | false =>
        rw [hc] at q
        rw [eqL_false hk hc]
        repeat' (first
          | apply RG.nil
          | apply Lex.nil
          | apply Then.n
          | apply Then.r
          | apply Then.x
          | apply InBlock.n
          | apply InBlock.r
          | apply InBlock.hit
          | (apply InBlock.miss; exact rfl)
          | apply W.seq
          | apply W.region
          | apply W.block
          | apply W.skip
          | apply W.ret
          | apply W.exit
          | ((first | apply U_); (first
    | exact QX.Move TYok
    | exact QX.Asg TYok
    | exact QX.Ld TYok
    | exact QX.Bin TYok
    | exact QX.Un TYok
    | exact QX.Len TYok
    | exact QX.Idx TYok
    | (apply Q_callvA (q); exact Ev.auto; exact EvA.auto)); exact rfl)
          | refine SX.Alloc TYok (h := ?_)
          | refine SX.Store TYok (h := ?_)
          | (refine W.condA (ht := fun hb => ?_) (hf := fun hb => ?_) <;> (try simp at hb) <;> (try (exfalso; omega))))
        exact Fin.ret ResL.auto
    · obtain rfl : k = a.length := by omega
      rw [eqL_true hlen h2]
      repeat' (first
        | apply RG.nil
        | apply Lex.nil
        | apply Then.n
        | apply Then.r
        | apply Then.x
        | apply InBlock.n
        | apply InBlock.r
        | apply InBlock.hit
        | (apply InBlock.miss; exact rfl)
        | apply W.seq
        | apply W.region
        | apply W.block
        | apply W.skip
        | apply W.ret
        | apply W.exit
        | ((first | apply U_); (first
    | exact QX.Move TYok
    | exact QX.Asg TYok
    | exact QX.Ld TYok
    | exact QX.Bin TYok
    | exact QX.Un TYok
    | exact QX.Len TYok
    | exact QX.Idx TYok); exact rfl)
        | refine SX.Alloc TYok (h := ?_)
        | refine SX.Store TYok (h := ?_)
        | (refine W.condA (ht := fun hb => ?_) (hf := fun hb => ?_) <;> (try simp at hb) <;> (try (exfalso; omega))))
      exact Fin.ret ResL.auto
theorem eqfV_ok (a b : List Cov) (f : Nat) (caps : List Cell) (p : Cov → Cov → Bool) (ha : a.length ≤ 9223372036854775807) (hp : ∀ x ∈ a, ∀ y ∈ b, ACalls Try.prog f (aV x :: aV y :: caps.map PV.one) (.pv (cB (p x y)))) : ACalls Try.prog 35 [slV a, slV b, .one (.fn f caps)] (.pv (cB (eqL p a b))) := by
  by_cases hlen : a.length = b.length
  case neg =>
    rw [eqL_nlen hlen]
    refine ACalls.of_W (qs := [cB false]) [6] 32 Try.func35 (by kernel_rfl) rfl rfl rfl fun G => ?_
    refine W.initA (hw := ?_)
    repeat' (first
      | apply RG.nil
      | apply Lex.nil
      | apply Then.n
      | apply Then.r
      | apply Then.x
      | apply InBlock.n
      | apply InBlock.r
      | apply InBlock.hit
      | (apply InBlock.miss; exact rfl)
      | apply W.seq
      | apply W.region
      | apply W.block
      | apply W.skip
      | apply W.ret
      | apply W.exit
      | ((first | apply U_); (first
    | exact QX.Move TYok
    | exact QX.Asg TYok
    | exact QX.Ld TYok
    | exact QX.Bin TYok
    | exact QX.Un TYok
    | exact QX.Len TYok
    | exact QX.Idx TYok); exact rfl)
      | refine SX.Alloc TYok (h := ?_)
      | refine SX.Store TYok (h := ?_)
      | (refine W.condA (ht := fun hb => ?_) (hf := fun hb => ?_) <;> (try simp at hb) <;> (try (exfalso; omega))))
    exact Fin.ret ResL.auto
  refine ACalls.of_W (qs := [cB (eqL p a b)]) [6] 32 Try.func35 (by kernel_rfl) rfl rfl rfl fun G => ?_
  refine W.initA (hw := ?_)
  repeat' (first
    | apply RG.nil
    | apply Lex.nil
    | apply Then.n
    | apply Then.r
    | apply Then.x
    | apply InBlock.n
    | apply InBlock.r
    | apply InBlock.hit
    | (apply InBlock.miss; exact rfl)
    | apply W.seq
    | apply W.region
    | apply W.block
    | apply W.skip
    | apply W.ret
    | apply W.exit
    | ((first | apply U_); (first
    | exact QX.Move TYok
    | exact QX.Asg TYok
    | exact QX.Ld TYok
    | exact QX.Bin TYok
    | exact QX.Un TYok
    | exact QX.Len TYok
    | exact QX.Idx TYok); exact rfl)
    | refine SX.Alloc TYok (h := ?_)
    | refine SX.Store TYok (h := ?_)
    | (refine W.condA (ht := fun hb => ?_) (hf := fun hb => ?_) <;> (try simp at hb) <;> (try (exfalso; omega))))
  apply W.loopP (σ := Nat) 32 [1, 2, 15, 16] (fun k => k ≤ a.length ∧ (∀ j, j < k → p (nth a j) (nth b j) = true)) (fun k => [(17, vI k)]) (fun _ => []) (fun k => a.length - k) (0)
  case hp => repeat (first | exact Pick.nil | apply Pick.cons rfl)
  case h0 =>
    refine ⟨⟨by simp, fun j hj => absurd hj (by omega)⟩, ?_⟩
    exact Le.auto
  case round =>
    rintro k ⟨h1, h2⟩
    apply W.norm (by repeat (first | exact App.nil | apply App.cons))
    by_cases hk : k < a.length
    · have q := hp (nth a k) (nth_mem hk) (nth b k) (nth_mem (by omega))
      cases hc : p (nth a k) (nth b k) with
      | true =>
        rw [hc] at q
        repeat' (first
          | apply RG.nil
          | apply Lex.nil
          | apply Then.n
          | apply Then.r
          | apply Then.x
          | apply InBlock.n
          | apply InBlock.r
          | apply InBlock.hit
          | (apply InBlock.miss; exact rfl)
          | apply W.seq
          | apply W.region
          | apply W.block
          | apply W.skip
          | apply W.ret
          | apply W.exit
          | ((first | apply U_); (first
    | exact QX.Move TYok
    | exact QX.Asg TYok
    | exact QX.Ld TYok
    | exact QX.Bin TYok
    | exact QX.Un TYok
    | exact QX.Len TYok
    | exact QX.Idx TYok
    | (apply Q_callvA (q); exact Ev.auto; exact EvA.auto)); exact rfl)
          | refine SX.Alloc TYok (h := ?_)
          | refine SX.Store TYok (h := ?_)
          | (refine W.condA (ht := fun hb => ?_) (hf := fun hb => ?_) <;> (try simp at hb) <;> (try (exfalso; omega))))
        refine ⟨k + 1, ⟨by omega, upto_succ (q := fun j => p (nth a j) (nth b j)) h2 hc⟩, ?_, ?_⟩
        · exact Le.auto
        · (try simp only); omega
      | false =>
        rw [hc] at q
        rw [eqL_false hk hc]
        repeat' (first
          | apply RG.nil
          | apply Lex.nil
          | apply Then.n
          | apply Then.r
          | apply Then.x
          | apply InBlock.n
          | apply InBlock.r
          | apply InBlock.hit
          | (apply InBlock.miss; exact rfl)
          | apply W.seq
          | apply W.region
          | apply W.block
          | apply W.skip
          | apply W.ret
          | apply W.exit
          | ((first | apply U_); (first
    | exact QX.Move TYok
    | exact QX.Asg TYok
    | exact QX.Ld TYok
    | exact QX.Bin TYok
    | exact QX.Un TYok
    | exact QX.Len TYok
    | exact QX.Idx TYok
    | (apply Q_callvA (q); exact Ev.auto; exact EvA.auto)); exact rfl)
          | refine SX.Alloc TYok (h := ?_)
          | refine SX.Store TYok (h := ?_)
          | (refine W.condA (ht := fun hb => ?_) (hf := fun hb => ?_) <;> (try simp at hb) <;> (try (exfalso; omega))))
        exact Fin.ret ResL.auto
    · obtain rfl : k = a.length := by omega
      rw [eqL_true hlen h2]
      repeat' (first
        | apply RG.nil
        | apply Lex.nil
        | apply Then.n
        | apply Then.r
        | apply Then.x
        | apply InBlock.n
        | apply InBlock.r
        | apply InBlock.hit
        | (apply InBlock.miss; exact rfl)
        | apply W.seq
        | apply W.region
        | apply W.block
        | apply W.skip
        | apply W.ret
        | apply W.exit
        | ((first | apply U_); (first
    | exact QX.Move TYok
    | exact QX.Asg TYok
    | exact QX.Ld TYok
    | exact QX.Bin TYok
    | exact QX.Un TYok
    | exact QX.Len TYok
    | exact QX.Idx TYok); exact rfl)
        | refine SX.Alloc TYok (h := ?_)
        | refine SX.Store TYok (h := ?_)
        | (refine W.condA (ht := fun hb => ?_) (hf := fun hb => ?_) <;> (try simp at hb) <;> (try (exfalso; omega))))
      exact Fin.ret ResL.auto
theorem sameE_ok (e : Exp) : OkE e → ∀ e', OkE e' → ACalls Try.prog 31 [aE e, aE e'] (.pv (cB (sameF e e'))) := by
  refine Exp.ind (P := fun e => OkE e → ∀ e', OkE e' → ACalls Try.prog 31 [aE e, aE e'] (.pv (cB (sameF e e')))) (fun op n u s l ih he e' he' => ?_) e
  obtain ⟨op', n', u', s', l'⟩ := e'
  cases he with
  | mk hs hl h =>
  cases he' with
  | mk hs' hl' h' =>
  have hq := eqfE_ok l l' 31 [] sameF hl (fun x hx y hy => ih x hx (h x hx) y (h' y hy))
  rw [aE_mk, aE_mk, sameF, sameFs_eq]
  refine ACalls.of_W (qs := [cB (decide (op = op') && decide (n = n') && decide (u = u') && decide (s = s') && eqL sameF l l')]) [4] 38 Try.func31 (by kernel_rfl) rfl rfl rfl fun G => ?_
  refine W.initA (hw := ?_)
  repeat' (first
    | apply RG.nil
    | apply Lex.nil
    | apply Then.n
    | apply Then.r
    | apply Then.x
    | apply InBlock.n
    | apply InBlock.r
    | apply InBlock.hit
    | (apply InBlock.miss; exact rfl)
    | apply W.seq
    | apply W.region
    | apply W.block
    | apply W.skip
    | apply W.ret
    | apply W.exit
    | ((first | apply U_ | (apply Ug_; exact rfl; exact rfl) | (apply Ugq_; exact rfl; exact rfl)); (first
    | exact QX.Move TYok
    | exact QX.Asg TYok
    | exact QX.Fld TYok
    | exact QX.Ld TYok
    | exact QX.Bin TYok
    | exact QX.Pick TYok
    | (apply Q_call (hq); exact EvL.auto; exact rfl)); exact rfl)
    | refine SX.Box TYok (h := ?_)
    | (apply S_isnil TYok; exact rfl; exact rfl; exact rfl; exact Ev.auto; intro bn hnil)
    | (apply RG.gT; exact rfl; exact rfl; (first | assumption | decide))
    | (apply RG.gF; exact rfl; exact rfl; (first | assumption | decide | (rw [ne_eq, Bool.not_eq_true]; assumption) | (rw [ne_eq, Bool.not_eq_false]; assumption)); exact rfl)
    | (refine W.condA (ht := fun hb => ?_) (hf := fun hb => ?_) <;> (try simp at hb) <;> (try (exfalso; omega))))
  exact Fin.ret ResL.auto
theorem letEq_ok (x y : Let) (hx : OkE x.body) (hy : OkE y.body) : ACalls Try.prog 30 [aL x, aL y] (.pv (cB (letF x y))) := by
  have h := sameE_ok x.body hx y.body hy
  refine ACalls.of_W (qs := [cB (letF x y)]) [4] 17 Try.func30 (by kernel_rfl) rfl rfl rfl fun G => ?_
  refine W.initA (hw := ?_)
  repeat' (first
    | apply RG.nil
    | apply Lex.nil
    | apply Then.n
    | apply Then.r
    | apply Then.x
    | apply InBlock.n
    | apply InBlock.r
    | apply InBlock.hit
    | (apply InBlock.miss; exact rfl)
    | apply W.seq
    | apply W.region
    | apply W.block
    | apply W.skip
    | apply W.ret
    | apply W.exit
    | ((first | apply U_ | (apply Ug_; exact rfl; exact rfl) | (apply Ugq_; exact rfl; exact rfl)); (first
    | exact QX.Move TYok
    | exact QX.Asg TYok
    | exact QX.Fld TYok
    | exact QX.Ld TYok
    | exact QX.Bin TYok
    | exact QX.Pick TYok
    | (apply Q_calld (h); exact EvD.auto)); exact rfl)
    | refine SX.Box TYok (h := ?_)
    | (apply S_isnil TYok; exact rfl; exact rfl; exact rfl; exact Ev.auto; intro bn hnil)
    | (apply RG.gT; exact rfl; exact rfl; (first | assumption | decide))
    | (apply RG.gF; exact rfl; exact rfl; (first | assumption | decide | (rw [ne_eq, Bool.not_eq_true]; assumption) | (rw [ne_eq, Bool.not_eq_false]; assumption)); exact rfl)
    | (refine W.condA (ht := fun hb => ?_) (hf := fun hb => ?_) <;> (try simp at hb) <;> (try (exfalso; omega))))
  exact Fin.ret ResL.auto
theorem letEq2_ok (x y : Let) (hx : OkE x.body) (hy : OkE y.body) : ACalls Try.prog 34 [aL x, aL y] (.pv (cB (letF x y))) := by
  have h := sameE_ok x.body hx y.body hy
  refine ACalls.of_W (qs := [cB (letF x y)]) [4] 17 Try.func34 (by kernel_rfl) rfl rfl rfl fun G => ?_
  refine W.initA (hw := ?_)
  repeat' (first
    | apply RG.nil
    | apply Lex.nil
    | apply Then.n
    | apply Then.r
    | apply Then.x
    | apply InBlock.n
    | apply InBlock.r
    | apply InBlock.hit
    | (apply InBlock.miss; exact rfl)
    | apply W.seq
    | apply W.region
    | apply W.block
    | apply W.skip
    | apply W.ret
    | apply W.exit
    | ((first | apply U_ | (apply Ug_; exact rfl; exact rfl) | (apply Ugq_; exact rfl; exact rfl)); (first
    | exact QX.Move TYok
    | exact QX.Asg TYok
    | exact QX.Fld TYok
    | exact QX.Ld TYok
    | exact QX.Bin TYok
    | exact QX.Pick TYok
    | (apply Q_calld (h); exact EvD.auto)); exact rfl)
    | refine SX.Box TYok (h := ?_)
    | (apply S_isnil TYok; exact rfl; exact rfl; exact rfl; exact Ev.auto; intro bn hnil)
    | (apply RG.gT; exact rfl; exact rfl; (first | assumption | decide))
    | (apply RG.gF; exact rfl; exact rfl; (first | assumption | decide | (rw [ne_eq, Bool.not_eq_true]; assumption) | (rw [ne_eq, Bool.not_eq_false]; assumption)); exact rfl)
    | (refine W.condA (ht := fun hb => ?_) (hf := fun hb => ?_) <;> (try simp at hb) <;> (try (exfalso; omega))))
  exact Fin.ret ResL.auto
theorem covEq_ok (x y : Cov) (hx : OkE x.must) (hy : OkE y.must) : ACalls Try.prog 36 [aV x, aV y] (.pv (cB (covF x y))) := by
  have h := sameE_ok x.must hx y.must hy
  refine ACalls.of_W (qs := [cB (covF x y)]) [4] 24 Try.func36 (by kernel_rfl) rfl rfl rfl fun G => ?_
  refine W.initA (hw := ?_)
  repeat' (first
    | apply RG.nil
    | apply Lex.nil
    | apply Then.n
    | apply Then.r
    | apply Then.x
    | apply InBlock.n
    | apply InBlock.r
    | apply InBlock.hit
    | (apply InBlock.miss; exact rfl)
    | apply W.seq
    | apply W.region
    | apply W.block
    | apply W.skip
    | apply W.ret
    | apply W.exit
    | ((first | apply U_ | (apply Ug_; exact rfl; exact rfl) | (apply Ugq_; exact rfl; exact rfl)); (first
    | exact QX.Move TYok
    | exact QX.Asg TYok
    | exact QX.Fld TYok
    | exact QX.Ld TYok
    | exact QX.Bin TYok
    | exact QX.Pick TYok
    | (apply Q_calld (h); exact EvD.auto)); exact rfl)
    | refine SX.Box TYok (h := ?_)
    | (apply S_isnil TYok; exact rfl; exact rfl; exact rfl; exact Ev.auto; intro bn hnil)
    | (apply RG.gT; exact rfl; exact rfl; (first | assumption | decide))
    | (apply RG.gF; exact rfl; exact rfl; (first | assumption | decide | (rw [ne_eq, Bool.not_eq_true]; assumption) | (rw [ne_eq, Bool.not_eq_false]; assumption)); exact rfl)
    | (refine W.condA (ht := fun hb => ?_) (hf := fun hb => ?_) <;> (try simp at hb) <;> (try (exfalso; omega))))
  exact Fin.ret ResL.auto
def strF (x y : Str) : Bool := decide (x = y)
def clF (x y : Cl) : Bool := decide (x = y)
theorem eqT : EqOK Try.prog 69 [(false, 3, 0), (false, 3, 1)] where
  hu := by kernel_rfl
  hs := by kernel_rfl
  hm := by kernel_rfl
  hf := by kernel_rfl
theorem clEq_C (a b : Cl) : clEq (encC a) (encC b) = decide (a = b) := by
  rw [Bool.eq_iff_iff]
  cases a; cases b
  simp [encC, clEq, ceq]
theorem eqS_ok (a b : List Str) (ha : a.length ≤ 9223372036854775807) : ACalls Try.prog 32 [slS a, slS b] (.pv (cB (eqL strF a b))) := by
  by_cases hlen : a.length = b.length
  case neg =>
    rw [eqL_nlen hlen]
    refine ACalls.of_W (qs := [cB false]) [4] 26 Try.func32 (by kernel_rfl) rfl rfl rfl fun G => ?_
    refine W.initA (hw := ?_)
    repeat' (first
      | apply RG.nil
      | apply Lex.nil
      | apply Then.n
      | apply Then.r
      | apply Then.x
      | apply InBlock.n
      | apply InBlock.r
      | apply InBlock.hit
      | (apply InBlock.miss; exact rfl)
      | apply W.seq
      | apply W.region
      | apply W.block
      | apply W.skip
      | apply W.ret
      | apply W.exit
      | (apply W.draw2 (id := 6) [0, 0, 3, 7, 0, 0, 48, 112, 255] [[0], [5], [16, 17], [18], [1], [5], [20, 21], [22], [19, 23]] 9 [(16, 1), (17, 32), (18, 196608), (19, 262144), (20, 2), (21, 32), (22, 3145728), (23, 4194304), (24, 8912896)] mixed (by kernel_rfl) rfl rfl)
      | ((first | apply U_ | apply Lex.u | (apply Lex.g; exact rfl; exact rfl) | (apply Lex.gq; exact rfl; exact rfl)); (first
    | exact QX.Move TYok
    | exact QX.Asg TYok
    | exact QX.Ld TYok
    | exact QX.Bin TYok
    | exact QX.Len TYok
    | exact QX.Idx TYok); exact rfl)
      | (refine W.condA (ht := fun hb => ?_) (hf := fun hb => ?_) <;> (try simp at hb) <;> (try (exfalso; omega))))
    exact Fin.ret ResL.auto
  refine ACalls.of_W (qs := [cB (eqL strF a b)]) [4] 26 Try.func32 (by kernel_rfl) rfl rfl rfl fun G => ?_
  refine W.initA (hw := ?_)
  repeat' (first
    | apply RG.nil
    | apply Lex.nil
    | apply Then.n
    | apply Then.r
    | apply Then.x
    | apply InBlock.n
    | apply InBlock.r
    | apply InBlock.hit
    | (apply InBlock.miss; exact rfl)
    | apply W.seq
    | apply W.region
    | apply W.block
    | apply W.skip
    | apply W.ret
    | apply W.exit
    | (apply W.draw2 (id := 6) [0, 0, 3, 7, 0, 0, 48, 112, 255] [[0], [5], [16, 17], [18], [1], [5], [20, 21], [22], [19, 23]] 9 [(16, 1), (17, 32), (18, 196608), (19, 262144), (20, 2), (21, 32), (22, 3145728), (23, 4194304), (24, 8912896)] mixed (by kernel_rfl) rfl rfl)
    | ((first | apply U_ | apply Lex.u | (apply Lex.g; exact rfl; exact rfl) | (apply Lex.gq; exact rfl; exact rfl)); (first
    | exact QX.Move TYok
    | exact QX.Asg TYok
    | exact QX.Ld TYok
    | exact QX.Bin TYok
    | exact QX.Len TYok
    | exact QX.Idx TYok); exact rfl)
    | (refine W.condA (ht := fun hb => ?_) (hf := fun hb => ?_) <;> (try simp at hb) <;> (try (exfalso; omega))))
  apply W.loopP (σ := Nat) 26 [0, 1, 12] (fun k => k ≤ a.length ∧ (∀ j, j < k → strF (nth a j) (nth b j) = true)) (fun k => [(13, vI k)]) (fun _ => []) (fun k => a.length - k) (0)
  case hp => repeat (first | exact Pick.nil | apply Pick.cons rfl)
  case h0 =>
    refine ⟨⟨by simp, fun j hj => absurd hj (by omega)⟩, ?_⟩
    exact Le.auto
  case round =>
    rintro k ⟨h1, h2⟩
    apply W.norm (by repeat (first | exact App.nil | apply App.cons))
    by_cases hk : k < a.length
    · repeat' (first
        | apply RG.nil
        | apply Lex.nil
        | apply Then.n
        | apply Then.r
        | apply Then.x
        | apply InBlock.n
        | apply InBlock.r
        | apply InBlock.hit
        | (apply InBlock.miss; exact rfl)
        | apply W.seq
        | apply W.region
        | apply W.block
        | apply W.skip
        | apply W.ret
        | apply W.exit
        | (apply W.draw2 (id := 6) [0, 0, 3, 7, 0, 0, 48, 112, 255] [[0], [5], [16, 17], [18], [1], [5], [20, 21], [22], [19, 23]] 9 [(16, 1), (17, 32), (18, 196608), (19, 262144), (20, 2), (21, 32), (22, 3145728), (23, 4194304), (24, 8912896)] mixed (by kernel_rfl) rfl rfl)
        | ((first | apply U_ | apply Lex.u | (apply Lex.g; exact rfl; exact rfl) | (apply Lex.gq; exact rfl; exact rfl)); (first
    | exact QX.Move TYok
    | exact QX.Asg TYok
    | exact QX.Ld TYok
    | exact QX.Bin TYok
    | exact QX.Len TYok
    | exact QX.Idx TYok); exact rfl)
        | (refine W.condA (ht := fun hb => ?_) (hf := fun hb => ?_) <;> (try simp at hb) <;> (try (exfalso; omega))))
      · have hc : strF (nth a k) (nth b k) = false := decide_eq_false hb
        rw [eqL_false hk hc]
        exact Fin.ret ResL.auto
      · have hc : strF (nth a k) (nth b k) = true := decide_eq_true hb
        refine ⟨k + 1, ⟨by omega, upto_succ (q := fun j => strF (nth a j) (nth b j)) h2 hc⟩, ?_, ?_⟩
        · exact Le.auto
        · (try simp only); omega
    · obtain rfl : k = a.length := by omega
      rw [eqL_true hlen h2]
      repeat' (first
        | apply RG.nil
        | apply Lex.nil
        | apply Then.n
        | apply Then.r
        | apply Then.x
        | apply InBlock.n
        | apply InBlock.r
        | apply InBlock.hit
        | (apply InBlock.miss; exact rfl)
        | apply W.seq
        | apply W.region
        | apply W.block
        | apply W.skip
        | apply W.ret
        | apply W.exit
        | (apply W.draw2 (id := 6) [0, 0, 3, 7, 0, 0, 48, 112, 255] [[0], [5], [16, 17], [18], [1], [5], [20, 21], [22], [19, 23]] 9 [(16, 1), (17, 32), (18, 196608), (19, 262144), (20, 2), (21, 32), (22, 3145728), (23, 4194304), (24, 8912896)] mixed (by kernel_rfl) rfl rfl)
        | ((first | apply U_ | apply Lex.u | (apply Lex.g; exact rfl; exact rfl) | (apply Lex.gq; exact rfl; exact rfl)); (first
    | exact QX.Move TYok
    | exact QX.Asg TYok
    | exact QX.Ld TYok
    | exact QX.Bin TYok
    | exact QX.Len TYok
    | exact QX.Idx TYok); exact rfl)
        | (refine W.condA (ht := fun hb => ?_) (hf := fun hb => ?_) <;> (try simp at hb) <;> (try (exfalso; omega))))
      exact Fin.ret ResL.auto
theorem eqC_ok (a b : List Cl) (ha : a.length ≤ 9223372036854775807) : ACalls Try.prog 33 [slC a, slC b] (.pv (cB (eqL clF a b))) := by
  by_cases hlen : a.length = b.length
  case neg =>
    rw [eqL_nlen hlen]
    refine ACalls.of_W (qs := [cB false]) [4] 26 Try.func33 (by kernel_rfl) rfl rfl rfl fun G => ?_
    refine W.initA (hw := ?_)
    repeat' (first
      | apply RG.nil
      | apply Lex.nil
      | apply Then.n
      | apply Then.r
      | apply Then.x
      | apply InBlock.n
      | apply InBlock.r
      | apply InBlock.hit
      | (apply InBlock.miss; exact rfl)
      | apply W.seq
      | apply W.region
      | apply W.block
      | apply W.skip
      | apply W.ret
      | apply W.exit
      | (apply W.draw2 (id := 6) [0, 0, 3, 7, 0, 0, 48, 112, 255] [[0], [5], [16, 17], [18], [1], [5], [20, 21], [22], [19, 23]] 9 [(16, 1), (17, 32), (18, 196608), (19, 262144), (20, 2), (21, 32), (22, 3145728), (23, 4194304), (24, 8912896)] mixed (by kernel_rfl) rfl rfl)
      | ((first | apply U_ | apply Lex.u | (apply Lex.g; exact rfl; exact rfl) | (apply Lex.gq; exact rfl; exact rfl)); (first
    | exact QX.Move TYok
    | exact QX.Asg TYok
    | exact QX.Ld TYok
    | exact QX.Bin TYok
    | exact QX.Len TYok
    | exact QX.Idx TYok); exact rfl)
      | (refine W.condA (ht := fun hb => ?_) (hf := fun hb => ?_) <;> (try simp at hb) <;> (try (exfalso; omega))))
    exact Fin.ret ResL.auto
  refine ACalls.of_W (qs := [cB (eqL clF a b)]) [4] 26 Try.func33 (by kernel_rfl) rfl rfl rfl fun G => ?_
  refine W.initA (hw := ?_)
  repeat' (first
    | apply RG.nil
    | apply Lex.nil
    | apply Then.n
    | apply Then.r
    | apply Then.x
    | apply InBlock.n
    | apply InBlock.r
    | apply InBlock.hit
    | (apply InBlock.miss; exact rfl)
    | apply W.seq
    | apply W.region
    | apply W.block
    | apply W.skip
    | apply W.ret
    | apply W.exit
    | (apply W.draw2 (id := 6) [0, 0, 3, 7, 0, 0, 48, 112, 255] [[0], [5], [16, 17], [18], [1], [5], [20, 21], [22], [19, 23]] 9 [(16, 1), (17, 32), (18, 196608), (19, 262144), (20, 2), (21, 32), (22, 3145728), (23, 4194304), (24, 8912896)] mixed (by kernel_rfl) rfl rfl)
    | ((first | apply U_ | apply Lex.u | (apply Lex.g; exact rfl; exact rfl) | (apply Lex.gq; exact rfl; exact rfl)); (first
    | exact QX.Move TYok
    | exact QX.Asg TYok
    | exact QX.Ld TYok
    | exact QX.Bin TYok
    | exact QX.Len TYok
    | exact QX.Idx TYok); exact rfl)
    | (refine W.condA (ht := fun hb => ?_) (hf := fun hb => ?_) <;> (try simp at hb) <;> (try (exfalso; omega))))
  apply W.loopP (σ := Nat) 26 [0, 1, 12] (fun k => k ≤ a.length ∧ (∀ j, j < k → clF (nth a j) (nth b j) = true)) (fun k => [(13, vI k)]) (fun _ => []) (fun k => a.length - k) (0)
  case hp => repeat (first | exact Pick.nil | apply Pick.cons rfl)
  case h0 =>
    refine ⟨⟨by simp, fun j hj => absurd hj (by omega)⟩, ?_⟩
    exact Le.auto
  case round =>
    rintro k ⟨h1, h2⟩
    apply W.norm (by repeat (first | exact App.nil | apply App.cons))
    by_cases hk : k < a.length
    · repeat' (first
        | apply RG.nil
        | apply Lex.nil
        | apply Then.n
        | apply Then.r
        | apply Then.x
        | apply InBlock.n
        | apply InBlock.r
        | apply InBlock.hit
        | (apply InBlock.miss; exact rfl)
        | apply W.seq
        | apply W.region
        | apply W.block
        | apply W.skip
        | apply W.ret
        | apply W.exit
        | (apply W.draw2 (id := 6) [0, 0, 3, 7, 0, 0, 48, 112, 255] [[0], [5], [16, 17], [18], [1], [5], [20, 21], [22], [19, 23]] 9 [(16, 1), (17, 32), (18, 196608), (19, 262144), (20, 2), (21, 32), (22, 3145728), (23, 4194304), (24, 8912896)] mixed (by kernel_rfl) rfl rfl)
        | ((first | apply U_ | apply Lex.u | (apply Lex.g; exact rfl; exact rfl) | (apply Lex.gq; exact rfl; exact rfl)); (first
    | exact QX.Move TYok
    | exact QX.Asg TYok
    | exact QX.Ld TYok
    | exact QX.Bin TYok
    | exact QX.Len TYok
    | exact QX.Idx TYok
    | (apply Q_neA TYok eqT; exact Ev.auto; exact Ev.auto; exact rfl)); exact rfl)
        | (refine W.condA (ht := fun hb => ?_) (hf := fun hb => ?_) <;> (try simp at hb) <;> (try (exfalso; omega))))
      · have hc : clF (nth a k) (nth b k) = false := (clEq_C _ _).symm.trans hb
        rw [eqL_false hk hc]
        exact Fin.ret ResL.auto
      · have hc : clF (nth a k) (nth b k) = true := (clEq_C _ _).symm.trans hb
        refine ⟨k + 1, ⟨by omega, upto_succ (q := fun j => clF (nth a j) (nth b j)) h2 hc⟩, ?_, ?_⟩
        · exact Le.auto
        · (try simp only); omega
    · obtain rfl : k = a.length := by omega
      rw [eqL_true hlen h2]
      repeat' (first
        | apply RG.nil
        | apply Lex.nil
        | apply Then.n
        | apply Then.r
        | apply Then.x
        | apply InBlock.n
        | apply InBlock.r
        | apply InBlock.hit
        | (apply InBlock.miss; exact rfl)
        | apply W.seq
        | apply W.region
        | apply W.block
        | apply W.skip
        | apply W.ret
        | apply W.exit
        | (apply W.draw2 (id := 6) [0, 0, 3, 7, 0, 0, 48, 112, 255] [[0], [5], [16, 17], [18], [1], [5], [20, 21], [22], [19, 23]] 9 [(16, 1), (17, 32), (18, 196608), (19, 262144), (20, 2), (21, 32), (22, 3145728), (23, 4194304), (24, 8912896)] mixed (by kernel_rfl) rfl rfl)
        | ((first | apply U_ | apply Lex.u | (apply Lex.g; exact rfl; exact rfl) | (apply Lex.gq; exact rfl; exact rfl)); (first
    | exact QX.Move TYok
    | exact QX.Asg TYok
    | exact QX.Ld TYok
    | exact QX.Bin TYok
    | exact QX.Len TYok
    | exact QX.Idx TYok); exact rfl)
        | (refine W.condA (ht := fun hb => ?_) (hf := fun hb => ?_) <;> (try simp at hb) <;> (try (exfalso; omega))))
      exact Fin.ret ResL.auto
end Go.Proofs.Ytionjeodcmnneaa
