/-
  Digits: products, and division by one digit.
-/
import Derived.Test.YtipghibmgfhmpaaGreatDoorWalk2
set_option linter.unusedVariables false
set_option linter.unusedSimpArgs false
set_option maxHeartbeats 8000000
namespace Go.Proofs.YtipghibmgfhmpaaGreatDoor
open Lf Go
attribute [local irreducible] PureOp EffOp Ev RG W Then InBlock Lf.Fin nth App InitE Pick SubE SubF SubG EvL EvD EvP EvR ResL Lf.Lex SubR SubBR RA RAll EvC FinO FinM ResM FinB ResD FinS val pw digs trimL

structure MulI (a b out : List Int) (i : Nat) : Prop where
  len : out.length = a.length + b.length
  dig : Dig out
  eq : val out = val (a.take i) * val b
  high : ∀ j, i + b.length ≤ j → j < out.length → nth out j = 0
structure MulK (a b out : List Int) (i k : Nat) (c : Int) : Prop where
  len : out.length = a.length + b.length
  dig : Dig out
  c0 : 0 ≤ c ∧ c < 1048576
  eq : val out + pw (i + k) * c = val (a.take i) * val b + nth a i * (pw i * val (b.take k))
  high : ∀ j, i + b.length ≤ j → j < out.length → nth out j = 0
theorem mul_le {x y : Int} (hx : 0 ≤ x ∧ x < 1048576) (hy : 0 ≤ y ∧ y < 1048576) : 0 ≤ x * y ∧ x * y ≤ 1099509530625 := by
  have h1 := Int.mul_nonneg hx.1 hy.1
  have h2 : x * y ≤ x * 1048575 := Int.mul_le_mul_of_nonneg_left (by omega) hx.1
  omega
theorem MulK.step {a b out : List Int} {i k : Nat} {c : Int} (h : MulK a b out i k c) (hi : i < a.length) (hk : k < b.length) (ha : Dig a) (hb : Dig b) {n : Int} (hn : n = nth out (i + k) + nth a i * nth b k + c) :
    MulK a b (out.set (i + k) (n % 1048576)) i (k + 1) (n / 1048576) := by
  have h1 := h.len
  have h2 := h.dig.nth (show i + k < out.length by omega)
  have h3 := mul_le (ha.nth hi) (hb.nth hk)
  have h4 := h.c0
  have h5 := h.eq
  refine ⟨by simp [h1], h.dig.set (by omega), by omega, ?_, fun j hj hj2 => ?_⟩
  · rw [val_set (by omega), show i + (k + 1) = (i + k) + 1 by omega, pw, val_take hk]
    have h6 := Int.emod_add_mul_ediv n 1048576
    have h7 := pw_add k i
    generalize n % 1048576 = r at h6 ⊢
    generalize n / 1048576 = q at h6 ⊢
    generalize nth out (i + k) = o at hn ⊢
    generalize nth a i = x at *
    generalize nth b k = y at *
    generalize pw (i + k) = p at *
    generalize val (b.take k) = w at *
    generalize val (a.take i) * val b = u at *
    subst h7
    have e : n = o + x * y + c := hn
    have e2 : r = n - 1048576 * q := by omega
    subst e2
    subst e
    grind
  · rw [nth_set_ne (by omega)]
    exact h.high j hj (by simpa using hj2)
theorem MulK.done {a b out : List Int} {i : Nat} {c : Int} (h : MulK a b out i b.length c) (hi : i < a.length) :
    MulI a b (out.set (i + b.length) c) (i + 1) := by
  have h1 := h.len
  have h2 := h.high (i + b.length) (Nat.le_refl _) (by omega)
  have h5 := h.eq
  refine ⟨by simp [h1], h.dig.set h.c0, ?_, fun j hj hj2 => ?_⟩
  · rw [val_set (by omega), h2, val_take hi]
    rw [List.take_length] at h5
    generalize pw (i + b.length) = p at *
    generalize val (a.take i) = u at *
    grind
  · rw [nth_set_ne (by omega)]
    exact h.high j (by omega) (by simpa using hj2)

theorem mul_own (a b : List Int) (da : Dig a) (db : Dig b) (hl : a.length ≤ 1000000) (hl' : b.length ≤ 1000000) (hp : 0 < a.length + b.length) : OCalls Tryz.prog 65 [slI a, slI b] 3 1 ((digs (val a * val b)).map encI) := by
  have key : ∀ out : List Int, out.length = a.length + b.length → SCalls Tryz.prog 80 3 1 (out.map encI) 0 (out.map encI).length [] (fun b cap => .pv (.one (.sla b (trimL out).length cap))) (out.map encI) := fun out ho => by
    rw [List.length_map]; exact trim_lent out (by omega)
  refine OCalls.of_W 4 67 Tryz.func65 (by kernel_rfl) rfl rfl rfl rfl fun G => ?_
  refine W.initA (hw := ?_)
  repeat' (first
    | ((first | apply U_); (first
    | exact QX.Move TYok
    | exact QX.Asg TYok
    | exact QX.Ld TYok
    | exact QX.Bin TYok
    | exact QX.Len TYok
    | exact QX.Idx TYok); exact rfl)
    | refine SX.Store TYok (h := ?_)
    | refine SX.Make TYok (h := ?_)
    | apply RG.nil
    | apply Lex.nil
    | apply Then.n
    | apply Then.r
    | apply Then.x
    | apply InBlock.n
    | apply InBlock.r
    | apply InBlock.hit
    | (apply InBlock.miss; exact rfl)
    | apply W.seq
    | apply W.region
    | apply W.block
    | apply W.skip
    | apply W.ret
    | apply W.exit
    | (refine W.condA (ht := fun hb => ?_) (hf := fun hb => ?_) <;> (try simp at hb) <;> (try (exfalso; omega))))
  apply W.loopP (σ := Nat × List Int) 67 [1, 18, 19] (fun (i, out) => i ≤ a.length ∧ MulI a b out i) (fun (i, out) => [(20, vI i), (5, (True, .slc 17))]) (fun (i, out) => [(17, ⟨3, 1, out.map encI⟩)]) (fun (i, out) => a.length - i) ((0, List.replicate (a.length + b.length) 0))
  case hp => repeat (first | exact Pick.nil | apply Pick.cons rfl)
  case h0 =>
    refine ⟨⟨by simp, by simp, Dig.rep _, by simp [val, val_rep], fun j hj hj2 => ?_⟩, ?_⟩
    · simp at hj2; simp [nth, hj2]
    exact Le.auto
  case round =>
    rintro ⟨i, out⟩ ⟨g1, g2⟩
    have g3 := g2.len
    apply W.norm (by repeat (first | exact App.nil | apply App.cons))
    dsimp only
    by_cases hi : i < a.length
    · have g5 := da.nth hi
      repeat' (first
        | ((first | apply U_); (first
    | (apply Q_or20; exact Ev.auto; exact Ev.auto; (intro hg; first | omega | (simp; omega) | (simp at hg; simp; omega)))
    | (apply Q_shl20; exact Ev.auto; (intro hg; first | omega | (simp; omega) | (simp at hg; simp; omega)))
    | (apply Q_shr20; exact Ev.auto)
    | (apply Q_and1; exact Ev.auto)
    | (apply Q_mask20; exact Ev.auto)
    | exact QX.Move TYok
    | exact QX.Asg TYok
    | exact QX.Ld TYok
    | exact QX.Bin TYok
    | exact QX.Len TYok
    | exact QX.Idx TYok); exact rfl)
        | refine SX.Store TYok (h := ?_)
        | refine SX.Make TYok (h := ?_)
        | apply RG.nil
        | apply Lex.nil
        | apply Then.n
        | apply Then.r
        | apply Then.x
        | apply InBlock.n
        | apply InBlock.r
        | apply InBlock.hit
        | (apply InBlock.miss; exact rfl)
        | apply W.seq
        | apply W.region
        | apply W.block
        | apply W.skip
        | apply W.ret
        | apply W.exit
        | (refine W.condA (ht := fun hb => ?_) (hf := fun hb => ?_) <;> (try simp at hb) <;> (try (exfalso; omega))))
      apply W.loopP (σ := Nat × Int × List Int) 67 [1, 18, 19, 20, 25, 26, 6, 7] (fun (k, c, out) => k ≤ b.length ∧ MulK a b out i k c) (fun (k, c, out) => [(27, vI k), (8, vI c), (5, (True, .slc 17))]) (fun (k, c, out) => [(17, ⟨3, 1, out.map encI⟩)]) (fun (k, c, out) => b.length - k) ((0, 0, out))
      case hp => repeat (first | exact Pick.nil | apply Pick.cons rfl)
      case h0 =>
        refine ⟨⟨by simp, g2.len, g2.dig, by omega, by rw [g2.eq]; simp [val], g2.high⟩, ?_⟩
        exact Le.auto
      case round =>
        rintro ⟨k, c, out⟩ ⟨f1, f2⟩
        have f3 := f2.len
        have f4 := f2.c0
        apply W.norm (by repeat (first | exact App.nil | apply App.cons))
        dsimp only
        by_cases hk : k < b.length
        · have f5 := mul_le g5 (db.nth hk)
          have f6 := f2.dig.nth (show i + k < out.length by omega)
          have f7 : 0 ≤ nth out ((i : Int) + (k : Int)).toNat ∧ nth out ((i : Int) + (k : Int)).toNat < 1048576 := f6
          repeat' (first
            | ((first | apply U_); (first
    | (apply Q_or20; exact Ev.auto; exact Ev.auto; (intro hg; first | omega | (simp; omega) | (simp at hg; simp; omega)))
    | (apply Q_shl20; exact Ev.auto; (intro hg; first | omega | (simp; omega) | (simp at hg; simp; omega)))
    | (apply Q_shr20; exact Ev.auto)
    | (apply Q_and1; exact Ev.auto)
    | (apply Q_mask20; exact Ev.auto)
    | exact QX.Move TYok
    | exact QX.Asg TYok
    | exact QX.Ld TYok
    | exact QX.Bin TYok
    | exact QX.Len TYok
    | exact QX.Idx TYok); exact rfl)
            | refine SX.Store TYok (h := ?_)
            | refine SX.Make TYok (h := ?_)
            | apply RG.nil
            | apply Lex.nil
            | apply Then.n
            | apply Then.r
            | apply Then.x
            | apply InBlock.n
            | apply InBlock.r
            | apply InBlock.hit
            | (apply InBlock.miss; exact rfl)
            | apply W.seq
            | apply W.region
            | apply W.block
            | apply W.skip
            | apply W.ret
            | apply W.exit
            | (refine W.condA (ht := fun hb => ?_) (hf := fun hb => ?_) <;> (try simp at hb) <;> (try (exfalso; omega))))
          refine ⟨(k + 1, (nth out (i + k) + nth a i * nth b k + c) / 1048576, out.set (i + k) ((nth out (i + k) + nth a i * nth b k + c) % 1048576)), ⟨by omega, f2.step hi hk da db rfl⟩, ?_, by (try simp only); omega⟩
          exact Le.auto
        · obtain rfl : k = b.length := by omega
          have f7 : nth out ((i : Int) + (b.length : Int)).toNat = 0 := f2.high (i + b.length) (by omega) (by omega)
          repeat' (first
            | ((first | apply U_); (first
    | (apply Q_or20; exact Ev.auto; exact Ev.auto; (intro hg; first | omega | (simp; omega) | (simp at hg; simp; omega)))
    | (apply Q_shl20; exact Ev.auto; (intro hg; first | omega | (simp; omega) | (simp at hg; simp; omega)))
    | (apply Q_shr20; exact Ev.auto)
    | (apply Q_and1; exact Ev.auto)
    | (apply Q_mask20; exact Ev.auto)
    | exact QX.Move TYok
    | exact QX.Asg TYok
    | exact QX.Ld TYok
    | exact QX.Bin TYok
    | exact QX.Len TYok
    | exact QX.Idx TYok); exact rfl)
            | refine SX.Store TYok (h := ?_)
            | refine SX.Make TYok (h := ?_)
            | apply RG.nil
            | apply Lex.nil
            | apply Then.n
            | apply Then.r
            | apply Then.x
            | apply InBlock.n
            | apply InBlock.r
            | apply InBlock.hit
            | (apply InBlock.miss; exact rfl)
            | apply W.seq
            | apply W.region
            | apply W.block
            | apply W.skip
            | apply W.ret
            | apply W.exit
            | (refine W.condA (ht := fun hb => ?_) (hf := fun hb => ?_) <;> (try simp at hb) <;> (try (exfalso; omega))))
          refine ⟨(i + 1, out.set (i + b.length) c), ⟨by omega, f2.done hi⟩, ?_, by (try simp only); omega⟩
          simp only [f7, Int.zero_add]
          exact Le.auto
    · obtain rfl : i = a.length := by omega
      have e : trimL out = digs (val a * val b) := trim_eq g2.dig (by rw [g2.eq, List.take_length])
      have k1 : out.map encI ≠ [] := fun h => by
        have := congrArg List.length h
        simp at this; simp [this] at g3; omega
      have k2 : (trimL out).length ≤ (out.map encI).length := by simpa using trimL_len out
      repeat' (first
        | ((first | apply U_); (first
    | exact QX.Move TYok
    | exact QX.Asg TYok
    | exact QX.Ld TYok
    | exact QX.Bin TYok
    | exact QX.Len TYok
    | exact QX.Idx TYok); exact rfl)
        | refine SX.Store TYok (h := ?_)
        | refine SX.Make TYok (h := ?_)
        | (apply S_callcut (key out g3); exact Ev.auto; exact rfl; exact k1; exact k2; exact rfl)
        | apply RG.nil
        | apply Lex.nil
        | apply Then.n
        | apply Then.r
        | apply Then.x
        | apply InBlock.n
        | apply InBlock.r
        | apply InBlock.hit
        | (apply InBlock.miss; exact rfl)
        | apply W.seq
        | apply W.region
        | apply W.block
        | apply W.skip
        | apply W.ret
        | apply W.exit
        | (refine W.condA (ht := fun hb => ?_) (hf := fun hb => ?_) <;> (try simp at hb) <;> (try (exfalso; omega))))
      refine FinO.ret rfl rfl ?_
      rw [← e, ← List.map_take, ← trimL_take]
theorem mul_ok (a b : List Int) (da : Dig a) (db : Dig b) (hl : a.length ≤ 1000000) (hl' : b.length ≤ 1000000) : ACalls Tryz.prog 65 [slI a, slI b] (.pv (slI (digs (val a * val b)))) := by
  by_cases hp : 0 < a.length + b.length
  · exact (mul_own a b da db hl hl' hp).data rfl
  · have key : ACalls Tryz.prog 80 [slI (List.replicate (a.length + b.length) 0)] (.pv (slI (trimL (List.replicate (a.length + b.length) 0)))) := trim_ok _ (by simp; omega)
    refine ACalls.of_W (qs := [slI (digs (val a * val b))]) [4] 67 Tryz.func65 (by kernel_rfl) rfl rfl rfl fun G => ?_
    refine W.initA (hw := ?_)
    repeat' (first
      | ((first | apply U_); (first
    | exact QX.Move TYok
    | exact QX.Asg TYok
    | exact QX.Ld TYok
    | exact QX.Bin TYok
    | exact QX.Len TYok
    | exact QX.Idx TYok); exact rfl)
      | refine SX.Store TYok (h := ?_)
      | refine SX.Make TYok (h := ?_)
      | apply RG.nil
      | apply Lex.nil
      | apply Then.n
      | apply Then.r
      | apply Then.x
      | apply InBlock.n
      | apply InBlock.r
      | apply InBlock.hit
      | (apply InBlock.miss; exact rfl)
      | apply W.seq
      | apply W.region
      | apply W.block
      | apply W.skip
      | apply W.ret
      | apply W.exit
      | (refine W.condA (ht := fun hb => ?_) (hf := fun hb => ?_) <;> (try simp at hb) <;> (try (exfalso; omega))))
    apply W.loopP (σ := Unit) 67 [1, 18, 19] (fun _ => True) (fun _ => [(20, vI 0), (5, (True, .slc 17))]) (fun _ => [(17, ⟨3, 1, (List.replicate (a.length + b.length) (0 : Int)).map encI⟩)]) (fun _ => 0) (())
    case hp => repeat (first | exact Pick.nil | apply Pick.cons rfl)
    case h0 =>
      refine ⟨trivial, ?_⟩
      exact Le.auto
    case round =>
      rintro ⟨⟩ -
      apply W.norm (by repeat (first | exact App.nil | apply App.cons))
      repeat' (first
        | (refine W.weaken (Le.freeze1 (m := 17) rfl) ?_; apply W.region (id := 14))
        | ((first | apply U_); (first
    | exact QX.Move TYok
    | exact QX.Asg TYok
    | exact QX.Ld TYok
    | exact QX.Bin TYok
    | exact QX.Len TYok
    | exact QX.Idx TYok
    | (apply Q_calld (key); exact EvD.auto)); exact rfl)
        | refine SX.Store TYok (h := ?_)
        | refine SX.Make TYok (h := ?_)
        | apply RG.nil
        | apply Lex.nil
        | apply Then.n
        | apply Then.r
        | apply Then.x
        | apply InBlock.n
        | apply InBlock.r
        | apply InBlock.hit
        | (apply InBlock.miss; exact rfl)
        | apply W.seq
        | apply W.region
        | apply W.block
        | apply W.skip
        | apply W.ret
        | apply W.exit
        | (refine W.condA (ht := fun hb => ?_) (hf := fun hb => ?_) <;> (try simp at hb) <;> (try (exfalso; omega))))
      rw [show digs (val a * val b) = trimL (List.replicate (a.length + b.length) 0) from (trim_eq (Dig.rep _) (by
        rw [val_rep, List.length_eq_zero_iff.1 (show a.length = 0 by omega)]; simp [val])).symm]
      exact Fin.ret ResL.auto

structure ShortI (a out : List Int) (d : Int) (i : Nat) (r : Int) : Prop where
  len : out.length = a.length
  dig : Dig out
  r0 : 0 ≤ r ∧ r < d
  eq : val (a.drop i) = d * val (out.drop i) + r
theorem ShortI.step {a out : List Int} {d : Int} {i : Nat} {r : Int} (h : ShortI a out d (i + 1) r) (hi : i < a.length) (ha : Dig a) (hd : 0 < d ∧ d ≤ 1048576) :
    ShortI a (out.set i ((r * 1048576 + nth a i) / d)) d i ((r * 1048576 + nth a i) % d) := by
  have h1 := h.len
  have h2 := ha.nth hi
  have h3 := h.r0
  have h4 := h.eq
  have hq0 : 0 ≤ (r * 1048576 + nth a i) / d := Int.ediv_nonneg (by omega) (by omega)
  have hq1 : (r * 1048576 + nth a i) / d < 1048576 := Int.ediv_lt_of_lt_mul hd.1 (by omega)
  refine ⟨by simp [h1], h.dig.set ⟨hq0, hq1⟩, ⟨Int.emod_nonneg _ (by omega), Int.emod_lt_of_pos _ hd.1⟩, ?_⟩
  rw [val_drop hi, val_drop (l := out.set i ((r * 1048576 + nth a i) / d)) (i := i) (by rw [List.length_set]; omega), nth_set_self (by omega), drop_set_gt]
  have h6 := Int.emod_add_mul_ediv (r * 1048576 + nth a i) d
  generalize (r * 1048576 + nth a i) % d = x at *
  generalize (r * 1048576 + nth a i) / d = y at *
  grind
theorem ShortI.done {a out : List Int} {d r : Int} (h : ShortI a out d 0 r) : trimL out = digs (val a / d) ∧ r = val a % d := by
  have h1 := h.eq
  have h2 := h.r0
  simp only [List.drop_zero] at h1
  have e : val a / d = val out ∧ val a % d = r := by
    rw [h1]
    constructor
    · rw [Int.mul_add_ediv_left _ _ (by omega), Int.ediv_eq_zero_of_lt h2.1 h2.2]; omega
    · rw [Int.mul_add_emod_self_left, Int.emod_eq_of_lt h2.1 h2.2]
  exact ⟨trim_eq h.dig e.1.symm, e.2.symm⟩
theorem short_ok (a : List Int) (d : Int) (da : Dig a) (hd : 0 < d ∧ d ≤ 1048576) (hl : a.length ≤ 1000000) : ACalls Tryz.prog 87 [slI a, cI d] (.tup [slI (digs (val a / d)), cI (val a % d)]) := by
  have key : ∀ out : List Int, out.length = a.length → ACalls Tryz.prog 80 [slI out] (.pv (slI (trimL out))) := fun out ho => trim_ok out (by omega)
  refine ACalls.of_W (qs := [slI (digs (val a / d)), cI (val a % d)]) [4, 5] 38 Tryz.func87 (by kernel_rfl) rfl rfl rfl fun G => ?_
  refine W.initA (hw := ?_)
  repeat' (first
    | ((first | apply U_); (first
    | exact QX.Move TYok
    | exact QX.Asg TYok
    | exact QX.Ld TYok
    | exact QX.Bin TYok
    | exact QX.Len TYok
    | exact QX.Idx TYok); exact rfl)
    | refine SX.Store TYok (h := ?_)
    | refine SX.Make TYok (h := ?_)
    | apply RG.nil
    | apply Lex.nil
    | apply Then.n
    | apply Then.r
    | apply Then.x
    | apply InBlock.n
    | apply InBlock.r
    | apply InBlock.hit
    | (apply InBlock.miss; exact rfl)
    | apply W.seq
    | apply W.region
    | apply W.block
    | apply W.skip
    | apply W.ret
    | apply W.exit
    | (refine W.condA (ht := fun hb => ?_) (hf := fun hb => ?_) <;> (try simp at hb) <;> (try (exfalso; omega))))
  apply W.loopP (σ := Nat × Int × List Int) 38 [0, 1] (fun (i, r, out) => i ≤ a.length ∧ ShortI a out d i r) (fun (i, r, out) => [(8, vI ((i : Int) - 1)), (7, vI r), (6, (True, .slc 11))]) (fun (i, r, out) => [(11, ⟨3, 1, out.map encI⟩)]) (fun (i, r, out) => i) ((a.length, 0, List.replicate a.length 0))
  case hp => repeat (first | exact Pick.nil | apply Pick.cons rfl)
  case h0 =>
    refine ⟨⟨by simp, by simp, Dig.rep _, by omega, by simp [val]⟩, ?_⟩
    exact Le.auto
  case round =>
    rintro ⟨i, r, out⟩ ⟨g1, g2⟩
    have g3 := g2.len
    have g4 := g2.r0
    apply W.norm (by repeat (first | exact App.nil | apply App.cons))
    dsimp only at g1 g2 g3 g4 ⊢
    cases i with
    | succ i =>
      have hi : i < a.length := by omega
      have e1 : ((i + 1 : Nat) : Int) - 1 = i := by omega
      have g5 := da.nth hi
      rw [e1]
      repeat' (first
        | ((first | apply U_); (first
    | (apply Q_or20; exact Ev.auto; exact Ev.auto; (intro hg; first | omega | (simp; omega) | (simp at hg; simp; omega)))
    | (apply Q_shl20; exact Ev.auto; (intro hg; first | omega | (simp; omega) | (simp at hg; simp; omega)))
    | (apply Q_shr20; exact Ev.auto)
    | (apply Q_and1; exact Ev.auto)
    | (apply Q_mask20; exact Ev.auto)
    | exact QX.Move TYok
    | exact QX.Asg TYok
    | exact QX.Ld TYok
    | exact QX.Bin TYok
    | exact QX.Len TYok
    | exact QX.Idx TYok); exact rfl)
        | refine SX.Store TYok (h := ?_)
        | refine SX.Make TYok (h := ?_)
        | apply RG.nil
        | apply Lex.nil
        | apply Then.n
        | apply Then.r
        | apply Then.x
        | apply InBlock.n
        | apply InBlock.r
        | apply InBlock.hit
        | (apply InBlock.miss; exact rfl)
        | apply W.seq
        | apply W.region
        | apply W.block
        | apply W.skip
        | apply W.ret
        | apply W.exit
        | (refine W.condA (ht := fun hb => ?_) (hf := fun hb => ?_) <;> (try simp at hb) <;> (try (exfalso; omega))))
      refine ⟨(i, (r * 1048576 + nth a i) % d, out.set i ((r * 1048576 + nth a i) / d)), ⟨by omega, g2.step hi da hd⟩, ?_, by (try simp only); omega⟩
      exact Le.auto
    | zero =>
      repeat' (first
        | (refine W.weaken (Le.freeze1 (m := 11) rfl) ?_; apply W.region (id := 9))
        | ((first | apply U_); (first
    | exact QX.Move TYok
    | exact QX.Asg TYok
    | exact QX.Ld TYok
    | exact QX.Bin TYok
    | exact QX.Len TYok
    | exact QX.Idx TYok
    | (apply Q_calld (key out g3); exact EvD.auto)); exact rfl)
        | refine SX.Store TYok (h := ?_)
        | refine SX.Make TYok (h := ?_)
        | apply RG.nil
        | apply Lex.nil
        | apply Then.n
        | apply Then.r
        | apply Then.x
        | apply InBlock.n
        | apply InBlock.r
        | apply InBlock.hit
        | (apply InBlock.miss; exact rfl)
        | apply W.seq
        | apply W.region
        | apply W.block
        | apply W.skip
        | apply W.ret
        | apply W.exit
        | (refine W.condA (ht := fun hb => ?_) (hf := fun hb => ?_) <;> (try simp at hb) <;> (try (exfalso; omega))))
      rw [← g2.done.1, ← g2.done.2]
      exact Fin.ret ResL.auto
end Go.Proofs.YtipghibmgfhmpaaGreatDoor
