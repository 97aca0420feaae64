/-
  Digits: sums, differences, products, short division.
-/
import Derived.Test.YtipghibmgfhmpaaGreatDoorWalk
set_option linter.unusedVariables false
set_option linter.unusedSimpArgs false
set_option maxHeartbeats 8000000
namespace Go.Proofs.YtipghibmgfhmpaaGreatDoor
open Lf Go
attribute [local irreducible] PureOp EffOp Ev RG W Then InBlock Lf.Fin nth App InitE Pick SubE SubF SubG EvL EvD EvP EvR ResL Lf.Lex SubR SubBR RA RAll EvC FinO FinM ResM FinB ResD FinS val pw digs trimL

theorem rep_map (n : Nat) : List.replicate n [Cell.int .i64 0] = (List.replicate n (0 : Int)).map encI := by simp [encI]
/-- one digit of a sum -/
theorem step_val {l : List Int} {i : Nat} (h : i < l.length) (d : Int) : val ((l.set i d).take (i + 1)) = val (l.take i) + pw i * d := by
  rw [val_take (by simpa using h), nth_set_self h, List.take_set_of_le (Nat.le_refl _)]
theorem drop_set_gt {l : List Int} {i : Nat} {d : Int} : (l.set i d).drop (i + 1) = l.drop (i + 1) := List.drop_set_of_lt (by omega)

structure AddI (a b out : List Int) (i : Nat) (c : Int) : Prop where
  len : out.length = a.length + 1
  dig : Dig out
  c0 : 0 ≤ c ∧ c ≤ 1
  eq : val (out.take i) + pw i * c = val (a.take i) + val (b.take i)
theorem AddI.step {a b out : List Int} {i : Nat} {c : Int} (h : AddI a b out i c) (hi : i < a.length) (ha : Dig a) (hb : Dig b) {n : Int} (hn : n = c + nth a i + if i < b.length then nth b i else 0) :
    AddI a b (out.set i (n % 1048576)) (i + 1) (n / 1048576) where
  len := by simp [h.len]
  dig := h.dig.set (by omega)
  c0 := by
    have h1 := ha.nth hi
    have h2 := h.c0
    by_cases hb' : i < b.length
    · have := hb.nth hb'; rw [if_pos hb'] at hn; omega
    · rw [if_neg hb'] at hn; omega
  eq := by
    have h1 := h.len
    have h2 := h.eq
    rw [step_val (by omega), val_take hi, pw]
    have e : val (b.take (i + 1)) = val (b.take i) + pw i * (if i < b.length then nth b i else 0) := by
      by_cases hb' : i < b.length
      · rw [val_take hb', if_pos hb']
      · rw [if_neg hb', List.take_of_length_le (by omega), List.take_of_length_le (by omega)]; simp
    rw [e]
    generalize (if i < b.length then nth b i else 0) = y at hn ⊢
    have h3 := Int.emod_add_mul_ediv n 1048576
    generalize n % 1048576 = r at h3 ⊢
    generalize n / 1048576 = q at h3 ⊢
    grind
theorem AddI.done {a b out : List Int} {c : Int} (h : AddI a b out a.length c) (hl : b.length ≤ a.length) : trimL (out.set a.length c) = digs (val a + val b) := by
  have h1 := h.len
  refine trim_eq (h.dig.set (by have := h.c0; omega)) ?_
  have e := step_val (l := out) (i := a.length) (by omega) c
  rw [List.take_of_length_le (by simp; omega)] at e
  rw [e, h.eq, List.take_length, List.take_of_length_le hl]

theorem add_ge (a b : List Int) (da : Dig a) (db : Dig b) (hl : a.length ≤ 1000000) (hl' : b.length ≤ 1000000) (hab : b.length ≤ a.length) : ACalls Tryz.prog 67 [slI a, slI b] (.pv (slI (digs (val a + val b)))) := by
  have key : ∀ out : List Int, out.length = a.length + 1 → ACalls Tryz.prog 80 [slI out] (.pv (slI (trimL out))) := fun out ho => trim_ok out (by omega)
  refine ACalls.of_W (qs := [slI (digs (val a + val b))]) [4] 55 Tryz.func67 (by kernel_rfl) rfl rfl rfl fun G => ?_
  refine W.initA (hw := ?_)
  repeat' (first
    | ((first | apply U_); (first
    | exact QX.Move TYok
    | exact QX.Asg TYok
    | exact QX.Ld TYok
    | exact QX.Bin TYok
    | exact QX.Len TYok
    | exact QX.Idx TYok); exact rfl)
    | refine SX.Store TYok (h := ?_)
    | refine SX.Make TYok (h := ?_)
    | apply RG.nil
    | apply Lex.nil
    | apply Then.n
    | apply Then.r
    | apply Then.x
    | apply InBlock.n
    | apply InBlock.r
    | apply InBlock.hit
    | (apply InBlock.miss; exact rfl)
    | apply W.seq
    | apply W.region
    | apply W.block
    | apply W.skip
    | apply W.ret
    | apply W.exit
    | (refine W.condA (ht := fun hb => ?_) (hf := fun hb => ?_) <;> (try simp at hb) <;> (try (exfalso; omega))))
  apply W.loopP (σ := Nat × Int × List Int) 55 [0, 1, 20, 21] (fun (i, c, out) => i ≤ a.length ∧ AddI a b out i c) (fun (i, c, out) => [(6, vI c), (22, vI i), (5, (True, .slc 19))]) (fun (i, c, out) => [(19, ⟨3, 1, out.map encI⟩)]) (fun (i, c, out) => a.length - i) ((0, 0, List.replicate (a.length + 1) 0))
  case hp => repeat (first | exact Pick.nil | apply Pick.cons rfl)
  case h0 =>
    refine ⟨⟨by simp, by simp, Dig.rep _, by omega, by simp [val]⟩, ?_⟩
    exact Le.auto
  case round =>
    rintro ⟨i, c, out⟩ ⟨g1, g2⟩
    have g3 := g2.len
    have g4 := g2.c0
    have g5 := fun h : i < a.length => da.nth h
    have g6 := fun h : i < b.length => db.nth h
    apply W.norm (by repeat (first | exact App.nil | apply App.cons))
    dsimp only
    by_cases hi : i < a.length
    · have g5 := g5 hi
      by_cases hj : i < b.length
      · have g6 := g6 hj
        repeat' (first
          | ((first | apply U_); (first
    | (apply Q_or20; exact Ev.auto; exact Ev.auto; (intro hg; first | omega | (simp; omega) | (simp at hg; simp; omega)))
    | (apply Q_shl20; exact Ev.auto; (intro hg; first | omega | (simp; omega) | (simp at hg; simp; omega)))
    | (apply Q_shr20; exact Ev.auto)
    | (apply Q_and1; exact Ev.auto)
    | (apply Q_mask20; exact Ev.auto)
    | exact QX.Move TYok
    | exact QX.Asg TYok
    | exact QX.Ld TYok
    | exact QX.Bin TYok
    | exact QX.Len TYok
    | exact QX.Idx TYok); exact rfl)
          | refine SX.Store TYok (h := ?_)
          | refine SX.Make TYok (h := ?_)
          | apply RG.nil
          | apply Lex.nil
          | apply Then.n
          | apply Then.r
          | apply Then.x
          | apply InBlock.n
          | apply InBlock.r
          | apply InBlock.hit
          | (apply InBlock.miss; exact rfl)
          | apply W.seq
          | apply W.region
          | apply W.block
          | apply W.skip
          | apply W.ret
          | apply W.exit
          | (refine W.condA (ht := fun hb => ?_) (hf := fun hb => ?_) <;> (try simp at hb) <;> (try (exfalso; omega))))
        refine ⟨(i + 1, (c + nth a i + nth b i) / 1048576, out.set i ((c + nth a i + nth b i) % 1048576)), ⟨by omega, g2.step hi da db (by rw [if_pos hj])⟩, ?_, by (try simp only); omega⟩
        exact Le.auto
      · repeat' (first
          | ((first | apply U_); (first
    | (apply Q_or20; exact Ev.auto; exact Ev.auto; (intro hg; first | omega | (simp; omega) | (simp at hg; simp; omega)))
    | (apply Q_shl20; exact Ev.auto; (intro hg; first | omega | (simp; omega) | (simp at hg; simp; omega)))
    | (apply Q_shr20; exact Ev.auto)
    | (apply Q_and1; exact Ev.auto)
    | (apply Q_mask20; exact Ev.auto)
    | exact QX.Move TYok
    | exact QX.Asg TYok
    | exact QX.Ld TYok
    | exact QX.Bin TYok
    | exact QX.Len TYok
    | exact QX.Idx TYok); exact rfl)
          | refine SX.Store TYok (h := ?_)
          | refine SX.Make TYok (h := ?_)
          | apply RG.nil
          | apply Lex.nil
          | apply Then.n
          | apply Then.r
          | apply Then.x
          | apply InBlock.n
          | apply InBlock.r
          | apply InBlock.hit
          | (apply InBlock.miss; exact rfl)
          | apply W.seq
          | apply W.region
          | apply W.block
          | apply W.skip
          | apply W.ret
          | apply W.exit
          | (refine W.condA (ht := fun hb => ?_) (hf := fun hb => ?_) <;> (try simp at hb) <;> (try (exfalso; omega))))
        refine ⟨(i + 1, (c + nth a i) / 1048576, out.set i ((c + nth a i) % 1048576)), ⟨by omega, g2.step hi da db (by rw [if_neg hj, Int.add_zero])⟩, ?_, by (try simp only); omega⟩
        exact Le.auto
    · obtain rfl : i = a.length := by omega
      repeat' (first
        | (refine W.weaken (Le.freeze1 (m := 19) rfl) ?_; apply W.region (id := 15))
        | ((first | apply U_); (first
    | exact QX.Move TYok
    | exact QX.Asg TYok
    | exact QX.Ld TYok
    | exact QX.Bin TYok
    | exact QX.Len TYok
    | exact QX.Idx TYok
    | (apply Q_calld (key (out.set a.length c) (by simp; omega)); exact EvD.auto)); exact rfl)
        | refine SX.Store TYok (h := ?_)
        | refine SX.Make TYok (h := ?_)
        | apply RG.nil
        | apply Lex.nil
        | apply Then.n
        | apply Then.r
        | apply Then.x
        | apply InBlock.n
        | apply InBlock.r
        | apply InBlock.hit
        | (apply InBlock.miss; exact rfl)
        | apply W.seq
        | apply W.region
        | apply W.block
        | apply W.skip
        | apply W.ret
        | apply W.exit
        | (refine W.condA (ht := fun hb => ?_) (hf := fun hb => ?_) <;> (try simp at hb) <;> (try (exfalso; omega))))
      rw [← g2.done (by omega)]
      exact Fin.ret ResL.auto
theorem add_lt (a b : List Int) (da : Dig a) (db : Dig b) (hl : a.length ≤ 1000000) (hl' : b.length ≤ 1000000) (hab : a.length < b.length) : ACalls Tryz.prog 67 [slI a, slI b] (.pv (slI (digs (val a + val b)))) := by
  have key : ∀ out : List Int, out.length = b.length + 1 → ACalls Tryz.prog 80 [slI out] (.pv (slI (trimL out))) := fun out ho => trim_ok out (by omega)
  refine ACalls.of_W (qs := [slI (digs (val a + val b))]) [4] 55 Tryz.func67 (by kernel_rfl) rfl rfl rfl fun G => ?_
  refine W.initA (hw := ?_)
  repeat' (first
    | ((first | apply U_); (first
    | exact QX.Move TYok
    | exact QX.Asg TYok
    | exact QX.Ld TYok
    | exact QX.Bin TYok
    | exact QX.Len TYok
    | exact QX.Idx TYok); exact rfl)
    | refine SX.Store TYok (h := ?_)
    | refine SX.Make TYok (h := ?_)
    | apply RG.nil
    | apply Lex.nil
    | apply Then.n
    | apply Then.r
    | apply Then.x
    | apply InBlock.n
    | apply InBlock.r
    | apply InBlock.hit
    | (apply InBlock.miss; exact rfl)
    | apply W.seq
    | apply W.region
    | apply W.block
    | apply W.skip
    | apply W.ret
    | apply W.exit
    | (refine W.condA (ht := fun hb => ?_) (hf := fun hb => ?_) <;> (try simp at hb) <;> (try (exfalso; omega))))
  apply W.loopP (σ := Nat × Int × List Int) 55 [0, 1, 20, 21] (fun (i, c, out) => i ≤ b.length ∧ AddI b a out i c) (fun (i, c, out) => [(6, vI c), (22, vI i), (5, (True, .slc 19))]) (fun (i, c, out) => [(19, ⟨3, 1, out.map encI⟩)]) (fun (i, c, out) => b.length - i) ((0, 0, List.replicate (b.length + 1) 0))
  case hp => repeat (first | exact Pick.nil | apply Pick.cons rfl)
  case h0 =>
    refine ⟨⟨by simp, by simp, Dig.rep _, by omega, by simp [val]⟩, ?_⟩
    exact Le.auto
  case round =>
    rintro ⟨i, c, out⟩ ⟨g1, g2⟩
    have g3 := g2.len
    have g4 := g2.c0
    have g5 := fun h : i < b.length => db.nth h
    have g6 := fun h : i < a.length => da.nth h
    apply W.norm (by repeat (first | exact App.nil | apply App.cons))
    dsimp only
    by_cases hi : i < b.length
    · have g5 := g5 hi
      by_cases hj : i < a.length
      · have g6 := g6 hj
        repeat' (first
          | ((first | apply U_); (first
    | (apply Q_or20; exact Ev.auto; exact Ev.auto; (intro hg; first | omega | (simp; omega) | (simp at hg; simp; omega)))
    | (apply Q_shl20; exact Ev.auto; (intro hg; first | omega | (simp; omega) | (simp at hg; simp; omega)))
    | (apply Q_shr20; exact Ev.auto)
    | (apply Q_and1; exact Ev.auto)
    | (apply Q_mask20; exact Ev.auto)
    | exact QX.Move TYok
    | exact QX.Asg TYok
    | exact QX.Ld TYok
    | exact QX.Bin TYok
    | exact QX.Len TYok
    | exact QX.Idx TYok); exact rfl)
          | refine SX.Store TYok (h := ?_)
          | refine SX.Make TYok (h := ?_)
          | apply RG.nil
          | apply Lex.nil
          | apply Then.n
          | apply Then.r
          | apply Then.x
          | apply InBlock.n
          | apply InBlock.r
          | apply InBlock.hit
          | (apply InBlock.miss; exact rfl)
          | apply W.seq
          | apply W.region
          | apply W.block
          | apply W.skip
          | apply W.ret
          | apply W.exit
          | (refine W.condA (ht := fun hb => ?_) (hf := fun hb => ?_) <;> (try simp at hb) <;> (try (exfalso; omega))))
        refine ⟨(i + 1, (c + nth b i + nth a i) / 1048576, out.set i ((c + nth b i + nth a i) % 1048576)), ⟨by omega, g2.step hi db da (by rw [if_pos hj])⟩, ?_, by (try simp only); omega⟩
        exact Le.auto
      · repeat' (first
          | ((first | apply U_); (first
    | (apply Q_or20; exact Ev.auto; exact Ev.auto; (intro hg; first | omega | (simp; omega) | (simp at hg; simp; omega)))
    | (apply Q_shl20; exact Ev.auto; (intro hg; first | omega | (simp; omega) | (simp at hg; simp; omega)))
    | (apply Q_shr20; exact Ev.auto)
    | (apply Q_and1; exact Ev.auto)
    | (apply Q_mask20; exact Ev.auto)
    | exact QX.Move TYok
    | exact QX.Asg TYok
    | exact QX.Ld TYok
    | exact QX.Bin TYok
    | exact QX.Len TYok
    | exact QX.Idx TYok); exact rfl)
          | refine SX.Store TYok (h := ?_)
          | refine SX.Make TYok (h := ?_)
          | apply RG.nil
          | apply Lex.nil
          | apply Then.n
          | apply Then.r
          | apply Then.x
          | apply InBlock.n
          | apply InBlock.r
          | apply InBlock.hit
          | (apply InBlock.miss; exact rfl)
          | apply W.seq
          | apply W.region
          | apply W.block
          | apply W.skip
          | apply W.ret
          | apply W.exit
          | (refine W.condA (ht := fun hb => ?_) (hf := fun hb => ?_) <;> (try simp at hb) <;> (try (exfalso; omega))))
        refine ⟨(i + 1, (c + nth b i) / 1048576, out.set i ((c + nth b i) % 1048576)), ⟨by omega, g2.step hi db da (by rw [if_neg hj, Int.add_zero])⟩, ?_, by (try simp only); omega⟩
        exact Le.auto
    · obtain rfl : i = b.length := by omega
      repeat' (first
        | (refine W.weaken (Le.freeze1 (m := 19) rfl) ?_; apply W.region (id := 15))
        | ((first | apply U_); (first
    | exact QX.Move TYok
    | exact QX.Asg TYok
    | exact QX.Ld TYok
    | exact QX.Bin TYok
    | exact QX.Len TYok
    | exact QX.Idx TYok
    | (apply Q_calld (key (out.set b.length c) (by simp; omega)); exact EvD.auto)); exact rfl)
        | refine SX.Store TYok (h := ?_)
        | refine SX.Make TYok (h := ?_)
        | apply RG.nil
        | apply Lex.nil
        | apply Then.n
        | apply Then.r
        | apply Then.x
        | apply InBlock.n
        | apply InBlock.r
        | apply InBlock.hit
        | (apply InBlock.miss; exact rfl)
        | apply W.seq
        | apply W.region
        | apply W.block
        | apply W.skip
        | apply W.ret
        | apply W.exit
        | (refine W.condA (ht := fun hb => ?_) (hf := fun hb => ?_) <;> (try simp at hb) <;> (try (exfalso; omega))))
      rw [Int.add_comm, ← g2.done (by omega)]
      exact Fin.ret ResL.auto

theorem add_ok (a b : List Int) (da : Dig a) (db : Dig b) (hl : a.length ≤ 1000000) (hl' : b.length ≤ 1000000) : ACalls Tryz.prog 67 [slI a, slI b] (.pv (slI (digs (val a + val b)))) := by
  by_cases h : b.length ≤ a.length
  · exact add_ge a b da db hl hl' h
  · exact add_lt a b da db hl hl' (by omega)

theorem clone_ok (a : List Int) (hl : a.length ≤ 1000000) : OCalls Tryz.prog 70 [slI a] 3 1 (a.map encI) := by
  refine OCalls.of_W 2 8 Tryz.func70 (by kernel_rfl) rfl rfl rfl rfl fun G => ?_
  refine W.initA (hw := ?_)
  repeat' (first
    | ((first | apply U_); (first
    | exact QX.Move TYok
    | exact QX.Asg TYok
    | exact QX.Bin TYok); exact rfl)
    | refine SX.Lit TYok (h := ?_)
    | refine SX.App TYok (h := ?_)
    | apply RG.nil
    | apply Lex.nil
    | apply Then.n
    | apply Then.r
    | apply Then.x
    | apply InBlock.n
    | apply InBlock.r
    | apply InBlock.hit
    | (apply InBlock.miss; exact rfl)
    | apply W.seq
    | apply W.region
    | apply W.block
    | apply W.skip
    | apply W.ret
    | apply W.exit
    | (apply S_isnil TYok; exact rfl; exact rfl; exact rfl; exact Ev.auto; intro bn hnil)
    | (refine W.condA (ht := fun hb => ?_) (hf := fun hb => ?_) <;> (try simp at hb) <;> (try (exfalso; omega))))
  · rw [hnil hb]
    exact FinO.nil rfl rfl
  · exact FinO.ret rfl rfl (by simp)

structure SubI (a b out : List Int) (i : Nat) (c : Int) : Prop where
  len : out.length = a.length
  dig : Dig out
  c0 : 0 ≤ c ∧ c ≤ 1
  rest : out.drop i = a.drop i
  eq : val (out.take i) - pw i * c = val (a.take i) - val (b.take i)
theorem SubI.nth {a b out : List Int} {i : Nat} {c : Int} (h : SubI a b out i c) (hi : i < a.length) : nth out i = nth a i := by
  have h1 := h.rest
  rw [drop_nth (by rw [h.len]; exact hi), drop_nth hi] at h1
  exact (List.cons.inj h1).1
theorem SubI.step {a b out : List Int} {i : Nat} {c : Int} (h : SubI a b out i c) (hi : i < a.length) (ha : Dig a) (hb : Dig b) {n : Int} (hn : n = Lf.nth out i - c - if i < b.length then Lf.nth b i else 0) :
    SubI a b (out.set i (n % 1048576)) (i + 1) (n / 1048576 % 2) := by
  have h1 := ha.nth hi
  have h2 := h.c0
  have h3 := h.nth hi
  have hy : 0 ≤ (if i < b.length then Lf.nth b i else 0) ∧ (if i < b.length then Lf.nth b i else 0) < 1048576 := by
    by_cases hb' : i < b.length
    · rw [if_pos hb']; exact hb.nth hb'
    · rw [if_neg hb']; omega
  have e : val (b.take (i + 1)) = val (b.take i) + pw i * (if i < b.length then Lf.nth b i else 0) := by
    by_cases hb' : i < b.length
    · rw [val_take hb', if_pos hb']
    · rw [if_neg hb', List.take_of_length_le (by omega), List.take_of_length_le (by omega)]; simp
  refine ⟨by simp [h.len], h.dig.set (by omega), by omega, ?_, ?_⟩
  · rw [drop_set_gt]
    have h4 := h.rest
    rw [drop_nth (by rw [h.len]; exact hi), drop_nth hi] at h4
    exact (List.cons.inj h4).2
  · have h5 := h.eq
    rw [step_val (by rw [h.len]; exact hi), val_take hi, pw, e]
    generalize (if i < b.length then Lf.nth b i else 0) = y at hn hy ⊢
    have h6 := Int.emod_add_mul_ediv n 1048576
    have h7 : n / 1048576 % 2 = - (n / 1048576) := by omega
    rw [h7]
    generalize n % 1048576 = r at h6 ⊢
    generalize n / 1048576 = q at h6 ⊢
    grind
theorem SubI.done {a b out : List Int} {c : Int} (h : SubI a b out a.length c) (hl : b.length ≤ a.length) (hv : val b ≤ val a) : trimL out = digs (val a - val b) := by
  have h1 := h.eq
  have h2 := val_hi h.dig
  rw [List.take_length, List.take_of_length_le hl, List.take_of_length_le (by rw [h.len]; omega)] at h1
  rw [h.len] at h2
  refine trim_eq h.dig ?_
  have h3 : c = 0 ∨ c = 1 := by have := h.c0; omega
  rcases h3 with rfl | rfl
  · omega
  · rw [Int.mul_one] at h1; omega
theorem sub_ok (a b : List Int) (da : Dig a) (db : Dig b) (hl : a.length ≤ 1000000) (hab : b.length ≤ a.length) (hv : val b ≤ val a) : ACalls Tryz.prog 69 [slI a, slI b] (.pv (slI (digs (val a - val b)))) := by
  have h1 := clone_ok a hl
  have key : ∀ out : List Int, out.length = a.length → ACalls Tryz.prog 80 [slI out] (.pv (slI (trimL out))) := fun out ho => trim_ok out (by omega)
  refine ACalls.of_W (qs := [slI (digs (val a - val b))]) [4] 43 Tryz.func69 (by kernel_rfl) rfl rfl rfl fun G => ?_
  refine W.initA (hw := ?_)
  repeat' (first
    | ((first | apply U_); (first
    | exact QX.Move TYok
    | exact QX.Asg TYok
    | exact QX.Ld TYok
    | exact QX.Bin TYok
    | exact QX.Len TYok
    | exact QX.Idx TYok); exact rfl)
    | refine SX.Store TYok (h := ?_)
    | (apply S_callo (h1); exact rfl; exact rfl; exact rfl; exact EvD.auto)
    | apply RG.nil
    | apply Lex.nil
    | apply Then.n
    | apply Then.r
    | apply Then.x
    | apply InBlock.n
    | apply InBlock.r
    | apply InBlock.hit
    | (apply InBlock.miss; exact rfl)
    | apply W.seq
    | apply W.region
    | apply W.block
    | apply W.skip
    | apply W.ret
    | apply W.exit
    | (refine W.condA (ht := fun hb => ?_) (hf := fun hb => ?_) <;> (try simp at hb) <;> (try (exfalso; omega))))
  apply W.loopP (σ := Nat × Int × List Int) 43 [1, 12] (fun (i, c, out) => i ≤ a.length ∧ SubI a b out i c) (fun (i, c, out) => [(6, vI c), (13, vI i), (5, (True, .slc 10))]) (fun (i, c, out) => [(10, ⟨3, 1, out.map encI⟩)]) (fun (i, c, out) => a.length - i) ((0, 0, a))
  case hp => repeat (first | exact Pick.nil | apply Pick.cons rfl)
  case h0 =>
    refine ⟨⟨by simp, rfl, da, by omega, rfl, by simp [val]⟩, ?_⟩
    exact Le.auto
  case round =>
    rintro ⟨i, c, out⟩ ⟨g1, g2⟩
    have g3 := g2.len
    have g4 := g2.c0
    apply W.norm (by repeat (first | exact App.nil | apply App.cons))
    dsimp only
    by_cases hi : i < a.length
    · have g5 := da.nth hi
      have g7 := g2.nth hi
      have g8 : nth out ((i : Int)).toNat = nth a i := g7
      by_cases hj : i < b.length
      · have g6 := db.nth hj
        repeat' (first
          | ((first | apply U_); (first
    | (apply Q_or20; exact Ev.auto; exact Ev.auto; (intro hg; first | omega | (simp; omega) | (simp at hg; simp; omega)))
    | (apply Q_shl20; exact Ev.auto; (intro hg; first | omega | (simp; omega) | (simp at hg; simp; omega)))
    | (apply Q_shr20; exact Ev.auto)
    | (apply Q_and1; exact Ev.auto)
    | (apply Q_mask20; exact Ev.auto)
    | exact QX.Move TYok
    | exact QX.Asg TYok
    | exact QX.Ld TYok
    | exact QX.Bin TYok
    | exact QX.Len TYok
    | exact QX.Idx TYok); exact rfl)
          | refine SX.Store TYok (h := ?_)
          | apply RG.nil
          | apply Lex.nil
          | apply Then.n
          | apply Then.r
          | apply Then.x
          | apply InBlock.n
          | apply InBlock.r
          | apply InBlock.hit
          | (apply InBlock.miss; exact rfl)
          | apply W.seq
          | apply W.region
          | apply W.block
          | apply W.skip
          | apply W.ret
          | apply W.exit
          | (refine W.condA (ht := fun hb => ?_) (hf := fun hb => ?_) <;> (try simp at hb) <;> (try (exfalso; omega))))
        refine ⟨(i + 1, (nth out i - c - nth b i) / 1048576 % 2, out.set i ((nth out i - c - nth b i) % 1048576)), ⟨by omega, g2.step hi da db (by rw [if_pos hj])⟩, ?_, by (try simp only); omega⟩
        exact Le.auto
      · repeat' (first
          | ((first | apply U_); (first
    | (apply Q_or20; exact Ev.auto; exact Ev.auto; (intro hg; first | omega | (simp; omega) | (simp at hg; simp; omega)))
    | (apply Q_shl20; exact Ev.auto; (intro hg; first | omega | (simp; omega) | (simp at hg; simp; omega)))
    | (apply Q_shr20; exact Ev.auto)
    | (apply Q_and1; exact Ev.auto)
    | (apply Q_mask20; exact Ev.auto)
    | exact QX.Move TYok
    | exact QX.Asg TYok
    | exact QX.Ld TYok
    | exact QX.Bin TYok
    | exact QX.Len TYok
    | exact QX.Idx TYok); exact rfl)
          | refine SX.Store TYok (h := ?_)
          | apply RG.nil
          | apply Lex.nil
          | apply Then.n
          | apply Then.r
          | apply Then.x
          | apply InBlock.n
          | apply InBlock.r
          | apply InBlock.hit
          | (apply InBlock.miss; exact rfl)
          | apply W.seq
          | apply W.region
          | apply W.block
          | apply W.skip
          | apply W.ret
          | apply W.exit
          | (refine W.condA (ht := fun hb => ?_) (hf := fun hb => ?_) <;> (try simp at hb) <;> (try (exfalso; omega))))
        refine ⟨(i + 1, (nth out i - c) / 1048576 % 2, out.set i ((nth out i - c) % 1048576)), ⟨by omega, g2.step hi da db (by rw [if_neg hj, Int.sub_zero])⟩, ?_, by (try simp only); omega⟩
        exact Le.auto
    · obtain rfl : i = a.length := by omega
      repeat' (first
        | (refine W.weaken (Le.freeze1 (m := 10) rfl) ?_; apply W.region (id := 12))
        | ((first | apply U_); (first
    | exact QX.Move TYok
    | exact QX.Asg TYok
    | exact QX.Ld TYok
    | exact QX.Bin TYok
    | exact QX.Len TYok
    | exact QX.Idx TYok
    | (apply Q_calld (key out g3); exact EvD.auto)); exact rfl)
        | refine SX.Store TYok (h := ?_)
        | apply RG.nil
        | apply Lex.nil
        | apply Then.n
        | apply Then.r
        | apply Then.x
        | apply InBlock.n
        | apply InBlock.r
        | apply InBlock.hit
        | (apply InBlock.miss; exact rfl)
        | apply W.seq
        | apply W.region
        | apply W.block
        | apply W.skip
        | apply W.ret
        | apply W.exit
        | (refine W.condA (ht := fun hb => ?_) (hf := fun hb => ?_) <;> (try simp at hb) <;> (try (exfalso; omega))))
      rw [← g2.done hab hv]
      exact Fin.ret ResL.auto
end Go.Proofs.YtipghibmgfhmpaaGreatDoor
