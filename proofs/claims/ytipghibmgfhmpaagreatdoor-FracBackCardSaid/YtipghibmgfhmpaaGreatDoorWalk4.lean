/-
  Digits: a multiple of digits taken away from others, in place.
-/
import Derived.Test.YtipghibmgfhmpaaGreatDoorWalk3
set_option linter.unusedVariables false
set_option linter.unusedSimpArgs false
set_option maxHeartbeats 8000000
namespace Go.Proofs.YtipghibmgfhmpaaGreatDoor
open Lf Go
attribute [local irreducible] PureOp EffOp Ev RG W Then InBlock Lf.Fin nth App InitE Pick SubE SubF SubG EvL EvD EvP EvR ResL Lf.Lex SubR SubBR RA RAll EvC FinO FinM ResM FinB ResD FinS val pw digs trimL

theorem dig_fix {cur : List Int} (hd : Dig cur) {x : Int} (hx : val cur = x) {n : Nat} (hl : cur.length = n) : cur = digL n x := by
  have h1 := val_lo hd
  have h2 := val_hi hd
  rw [hl] at h2
  obtain ⟨h3, h4, h5⟩ := digL_ok n x (by omega)
  exact dig_uniq hd h3 (by rw [h4, hl]) (by rw [h5, hx])
theorem set_mid {pre cur post : List Int} {j : Nat} {x : Int} (hj : j < cur.length) : (pre ++ cur ++ post).set (pre.length + j) x = pre ++ cur.set j x ++ post := by
  rw [List.append_assoc, List.set_append_right _ _ (by omega), Nat.add_sub_cancel_left, List.set_append_left _ _ hj, List.append_assoc]
theorem nth_mid {pre cur post : List Int} {j : Nat} (hj : j < cur.length) : nth (pre ++ cur ++ post) (pre.length + j) = nth cur j := by
  rw [nth, nth, List.getD, List.getD, List.append_assoc, List.getElem?_append_right (by omega), Nat.add_sub_cancel_left, List.getElem?_append_left hj]
def vj (v : List Int) (j : Nat) : Int := if j < v.length then nth v j else 0
theorem vj_take (v : List Int) (j : Nat) : val (v.take (j + 1)) = val (v.take j) + pw j * vj v j := by
  unfold vj
  by_cases h : j < v.length
  · rw [val_take h, if_pos h]
  · rw [if_neg h, List.take_of_length_le (by omega), List.take_of_length_le (by omega)]; simp
theorem vj_dig {v : List Int} (dv : Dig v) (j : Nat) : 0 ≤ vj v j ∧ vj v j < 1048576 := by
  unfold vj
  by_cases h : j < v.length
  · rw [if_pos h]; exact dv.nth h
  · rw [if_neg h]; omega
theorem vj_yes {v : List Int} {j : Nat} (h : j < v.length) : vj v j = nth v j := if_pos h
theorem vj_no {v : List Int} {j : Nat} (h : ¬ j < v.length) : vj v j = 0 := if_neg h
structure SetI (P v cur : List Int) (g : Int) (j : Nat) (bo : Int) : Prop where
  len : cur.length = P.length
  dig : Dig cur
  rest : cur.drop j = P.drop j
  b0 : 0 ≤ bo ∧ bo ≤ g
  eq : val (cur.take j) - pw j * bo = val (P.take j) - g * val (v.take j)
theorem drop_tl {a b : List Int} {i : Nat} (h : a.drop i = b.drop i) (h1 : i < a.length) (h2 : i < b.length) : nth a i = nth b i ∧ a.drop (i + 1) = b.drop (i + 1) := by
  rw [drop_nth h1, drop_nth h2] at h
  exact List.cons.inj h
theorem SetI.step {P v cur : List Int} {g : Int} {j : Nat} {bo : Int} (h : SetI P v cur g j bo) (hj : j < P.length) (dP : Dig P) (dv : Dig v) {n : Int} (hn : n = nth cur j - bo - g * vj v j) :
    SetI P v (cur.set j (n % 1048576)) g (j + 1) (-(n / 1048576)) := by
  have h1 := h.len
  obtain ⟨h2, h3⟩ := drop_tl h.rest (by omega) hj
  have h4 := h.dig.nth (show j < cur.length by omega)
  have h5 := h.b0
  have h6 := vj_dig dv j
  have h7 : 0 ≤ g * vj v j := Int.mul_nonneg (by omega) h6.1
  have h8 : g * vj v j ≤ g * 1048575 := Int.mul_le_mul_of_nonneg_left (by omega) (by omega)
  refine ⟨by simp [h1], h.dig.set (by omega), by rw [drop_set_gt]; exact h3, by omega, ?_⟩
  have h9 := h.eq
  rw [step_val (by omega), val_take hj, pw, vj_take, ← h2]
  have e := Int.emod_add_mul_ediv n 1048576
  generalize n % 1048576 = r at e ⊢
  generalize n / 1048576 = q at e ⊢
  have e2 : r = n - 1048576 * q := by omega
  subst e2
  subst hn
  grind
theorem SetI.last {P v cur : List Int} {g q bo : Int} (h : SetI P v cur g P.length bo) (hl : v.length ≤ P.length) (hq : q ≤ g ∧ g ≤ q + 1) (hw : 0 ≤ val P - q * val v ∧ val P - q * val v < val v) (dv : Dig v) :
    (bo = 0 → g = q ∧ cur = digL P.length (val P - q * val v)) ∧ (¬ bo = 0 → g - 1 = q ∧ val cur + val v = pw P.length + (val P - q * val v)) := by
  have h1 := h.eq
  have h0 := h.len
  rw [List.take_of_length_le (by omega), List.take_length, List.take_of_length_le hl] at h1
  have h2 := val_lo h.dig
  have h3 := val_hi h.dig
  have h4 := val_lo dv
  have h6 := val_hi dv
  have h7 := pw_mono hl
  rw [h0] at h3
  have hb := h.b0
  have hg : g = q ∨ g = q + 1 := by omega
  constructor
  · rintro rfl
    rw [Int.mul_zero] at h1
    rcases hg with rfl | rfl
    · exact ⟨rfl, dig_fix h.dig (by omega) h0⟩
    · rw [Int.add_mul] at h1; omega
  · intro hne
    have hp := pw_pos P.length
    rcases hg with rfl | rfl
    · have : pw P.length * 1 ≤ pw P.length * bo := Int.mul_le_mul_of_nonneg_left (by omega) (by omega)
      omega
    · rw [Int.add_mul] at h1
      have : bo = 1 := by
        by_cases hb2 : bo = 1
        · exact hb2
        · have : pw P.length * 2 ≤ pw P.length * bo := Int.mul_le_mul_of_nonneg_left (by omega) (by omega)
          omega
      subst this
      omega
structure BackI (C v cur : List Int) (j : Nat) (c : Int) : Prop where
  len : cur.length = C.length
  dig : Dig cur
  rest : cur.drop j = C.drop j
  c0 : 0 ≤ c ∧ c ≤ 1
  eq : val (cur.take j) + pw j * c = val (C.take j) + val (v.take j)
theorem BackI.step {C v cur : List Int} {j : Nat} {c : Int} (h : BackI C v cur j c) (hj : j < C.length) (dv : Dig v) {n : Int} (hn : n = c + nth cur j + vj v j) :
    BackI C v (cur.set j (n % 1048576)) (j + 1) (n / 1048576) := by
  have h1 := h.len
  obtain ⟨h2, h3⟩ := drop_tl h.rest (by omega) hj
  have h4 := h.dig.nth (show j < cur.length by omega)
  have h5 := h.c0
  have h6 := vj_dig dv j
  refine ⟨by simp [h1], h.dig.set (by omega), by rw [drop_set_gt]; exact h3, by omega, ?_⟩
  have h9 := h.eq
  rw [step_val (by omega), val_take hj, pw, vj_take, ← h2]
  have e := Int.emod_add_mul_ediv n 1048576
  generalize n % 1048576 = r at e ⊢
  generalize n / 1048576 = q at e ⊢
  have e2 : r = n - 1048576 * q := by omega
  subst e2
  subst hn
  grind
theorem BackI.done {C v cur : List Int} {c x : Int} (h : BackI C v cur C.length c) (hl : v.length ≤ C.length) (hv : val C + val v = pw C.length + x) (hx : 0 ≤ x ∧ x < pw C.length) : cur = digL C.length x := by
  have h1 := h.eq
  have h0 := h.len
  rw [List.take_of_length_le (by omega), List.take_length, List.take_of_length_le hl] at h1
  have h2 := val_lo h.dig
  have h3 := val_hi h.dig
  rw [h0] at h3
  have hc : c = 0 ∨ c = 1 := by have := h.c0; omega
  rcases hc with rfl | rfl
  · omega
  · exact dig_fix h.dig (by omega) h0

theorem settle_ok (pre P post v : List Int) (g q : Int) (dP : Dig P) (dv : Dig v) (hl : P.length = v.length + 1) (hlen : (pre ++ P ++ post).length ≤ 1000000) (hg : 0 ≤ g ∧ g ≤ 1048576) (hq : q ≤ g ∧ g ≤ q + 1) (hw : 0 ≤ val P - q * val v ∧ val P - q * val v < val v) :
    SCalls Tryz.prog 103 3 1 ((pre ++ P ++ post).map encI) pre.length P.length [slI v, cI g] (fun _ _ => .pv (cI q)) ((pre ++ digL P.length (val P - q * val v) ++ post).map encI) := by
  rw [List.length_append, List.length_append] at hlen
  refine SCalls.of_W (qs := (fun _ _ => [cI q])) [6] 78 Tryz.func103 (by kernel_rfl) rfl rfl rfl rfl fun G b cap => ?_
  simp only [St.initS, initEnv, Nat.reduceAdd]
  repeat' (first
    | ((first | apply U_); (first
    | exact QX.Move TYok
    | exact QX.Asg TYok
    | exact QX.Ld TYok
    | exact QX.Bin TYok
    | exact QX.Un TYok
    | exact QX.Len TYok
    | exact QX.Idx TYok
    | (apply Q_lenP TYok; exact Ev.auto; exact rfl; exact rfl)
    | (apply Q_indexP TYok; exact Ev.auto; exact Ev.auto; exact rfl; exact rfl; exact rfl; exact rfl; exact rfl; exact rfl; (intro hg; first | omega | (simp; omega) | (simp at hg; simp; omega)))
    | (apply Q_cutP TYok; exact Ev.auto; exact Ev.auto; exact rfl; exact rfl; exact rfl; exact rfl; (focus (simp; done)); (intro hg; first | omega | (simp; omega) | (simp at hg; simp; omega)))); exact rfl)
    | refine SX.Store TYok (h := ?_)
    | apply RG.nil
    | apply Lex.nil
    | apply Then.n
    | apply Then.r
    | apply Then.x
    | apply InBlock.n
    | apply InBlock.r
    | apply InBlock.hit
    | (apply InBlock.miss; exact rfl)
    | apply W.seq
    | apply W.region
    | apply W.block
    | apply W.skip
    | apply W.ret
    | apply W.exit
    | (apply S_isnil TYok; exact rfl; exact rfl; exact rfl; exact Ev.auto; intro bn hnil)
    | (refine W.condA (ht := fun hb => ?_) (hf := fun hb => ?_) <;> (try simp at hb) <;> (try (exfalso; omega))))
  apply W.loopP (σ := Nat × Int × List Int) 78 [0, 1, 2, 13] (fun (j, bo, cur) => j ≤ P.length ∧ SetI P v cur g j bo) (fun (j, bo, cur) => [(14, vI j), (7, vI bo)]) (fun (j, bo, cur) => [(0, ⟨3, 1, (pre ++ cur ++ post).map encI⟩)]) (fun (j, bo, cur) => P.length - j) ((0, 0, P))
  case hp => repeat (first | exact Pick.nil | apply Pick.cons rfl)
  case h0 =>
    refine ⟨⟨by simp, rfl, dP, rfl, by omega, by simp [val]⟩, ?_⟩
    exact Le.auto
  case round =>
    rintro ⟨j, bo, cur⟩ ⟨g1, g2⟩
    have g3 := g2.len
    have g4 := g2.b0
    apply W.norm (by repeat (first | exact App.nil | apply App.cons))
    dsimp only
    by_cases hj : j < P.length
    · have n1 : nth (pre ++ cur ++ post) (pre.length + ((j : Int)).toNat) = nth cur j := nth_mid (by omega)
      have n2 : ∀ x, (pre ++ cur ++ post).set (pre.length + ((j : Int)).toNat) x = pre ++ cur.set j x ++ post := fun x => set_mid (by omega)
      have n3 := g2.dig.nth (show j < cur.length by omega)
      by_cases hv : j < v.length
      · have n4 := dv.nth hv
        have n5 : 0 ≤ g * nth v j := Int.mul_nonneg (by omega) n4.1
        have n6 : g * nth v j ≤ g * 1048575 := Int.mul_le_mul_of_nonneg_left (by omega) (by omega)
        repeat' (first
          | ((first | apply U_); (first
    | (apply Q_or20; exact Ev.auto; exact Ev.auto; (intro hg; first | omega | (simp; omega) | (simp at hg; simp; omega)))
    | (apply Q_shl20; exact Ev.auto; (intro hg; first | omega | (simp; omega) | (simp at hg; simp; omega)))
    | (apply Q_shr20; exact Ev.auto)
    | (apply Q_and1; exact Ev.auto)
    | (apply Q_mask20; exact Ev.auto)
    | exact QX.Move TYok
    | exact QX.Asg TYok
    | exact QX.Ld TYok
    | exact QX.Bin TYok
    | exact QX.Un TYok
    | exact QX.Len TYok
    | exact QX.Idx TYok
    | (apply Q_lenP TYok; exact Ev.auto; exact rfl; exact rfl)
    | (apply Q_indexP TYok; exact Ev.auto; exact Ev.auto; exact rfl; exact rfl; exact rfl; exact rfl; exact rfl; exact rfl; (intro hg; first | omega | (simp; omega) | (simp at hg; simp; omega)))
    | (apply Q_cutP TYok; exact Ev.auto; exact Ev.auto; exact rfl; exact rfl; exact rfl; exact rfl; (focus (simp; done)); (intro hg; first | omega | (simp; omega) | (simp at hg; simp; omega)))); exact rfl)
          | refine SX.Store TYok (h := ?_)
          | apply RG.nil
          | apply Lex.nil
          | apply Then.n
          | apply Then.r
          | apply Then.x
          | apply InBlock.n
          | apply InBlock.r
          | apply InBlock.hit
          | (apply InBlock.miss; exact rfl)
          | apply W.seq
          | apply W.region
          | apply W.block
          | apply W.skip
          | apply W.ret
          | apply W.exit
          | (apply S_isnil TYok; exact rfl; exact rfl; exact rfl; exact Ev.auto; intro bn hnil)
          | (refine W.condA (ht := fun hb => ?_) (hf := fun hb => ?_) <;> (try simp at hb) <;> (try (exfalso; omega))))
        refine ⟨(j + 1, -((nth cur j - bo - g * nth v j) / 1048576), cur.set j ((nth cur j - bo - g * nth v j) % 1048576)), ⟨by omega, g2.step hj dP dv (by rw [vj_yes hv])⟩, ?_, by (try simp only); omega⟩
        simp only [n1, n2]
        exact Le.auto
      · repeat' (first
          | ((first | apply U_); (first
    | (apply Q_or20; exact Ev.auto; exact Ev.auto; (intro hg; first | omega | (simp; omega) | (simp at hg; simp; omega)))
    | (apply Q_shl20; exact Ev.auto; (intro hg; first | omega | (simp; omega) | (simp at hg; simp; omega)))
    | (apply Q_shr20; exact Ev.auto)
    | (apply Q_and1; exact Ev.auto)
    | (apply Q_mask20; exact Ev.auto)
    | exact QX.Move TYok
    | exact QX.Asg TYok
    | exact QX.Ld TYok
    | exact QX.Bin TYok
    | exact QX.Un TYok
    | exact QX.Len TYok
    | exact QX.Idx TYok
    | (apply Q_lenP TYok; exact Ev.auto; exact rfl; exact rfl)
    | (apply Q_indexP TYok; exact Ev.auto; exact Ev.auto; exact rfl; exact rfl; exact rfl; exact rfl; exact rfl; exact rfl; (intro hg; first | omega | (simp; omega) | (simp at hg; simp; omega)))
    | (apply Q_cutP TYok; exact Ev.auto; exact Ev.auto; exact rfl; exact rfl; exact rfl; exact rfl; (focus (simp; done)); (intro hg; first | omega | (simp; omega) | (simp at hg; simp; omega)))); exact rfl)
          | refine SX.Store TYok (h := ?_)
          | apply RG.nil
          | apply Lex.nil
          | apply Then.n
          | apply Then.r
          | apply Then.x
          | apply InBlock.n
          | apply InBlock.r
          | apply InBlock.hit
          | (apply InBlock.miss; exact rfl)
          | apply W.seq
          | apply W.region
          | apply W.block
          | apply W.skip
          | apply W.ret
          | apply W.exit
          | (apply S_isnil TYok; exact rfl; exact rfl; exact rfl; exact Ev.auto; intro bn hnil)
          | (refine W.condA (ht := fun hb => ?_) (hf := fun hb => ?_) <;> (try simp at hb) <;> (try (exfalso; omega))))
        refine ⟨(j + 1, -((nth cur j - bo) / 1048576), cur.set j ((nth cur j - bo) % 1048576)), ⟨by omega, g2.step hj dP dv (by rw [vj_no hv, Int.mul_zero, Int.sub_zero])⟩, ?_, by (try simp only); omega⟩
        simp only [n1, n2]
        exact Le.auto
    · obtain rfl : j = P.length := by omega
      obtain ⟨m1, m2⟩ := g2.last (by omega) hq hw dv
      repeat' (first
        | ((first | apply U_); (first
    | exact QX.Move TYok
    | exact QX.Asg TYok
    | exact QX.Ld TYok
    | exact QX.Bin TYok
    | exact QX.Un TYok
    | exact QX.Len TYok
    | exact QX.Idx TYok
    | (apply Q_lenP TYok; exact Ev.auto; exact rfl; exact rfl)
    | (apply Q_indexP TYok; exact Ev.auto; exact Ev.auto; exact rfl; exact rfl; exact rfl; exact rfl; exact rfl; exact rfl; (intro hg; first | omega | (simp; omega) | (simp at hg; simp; omega)))
    | (apply Q_cutP TYok; exact Ev.auto; exact Ev.auto; exact rfl; exact rfl; exact rfl; exact rfl; (focus (simp; done)); (intro hg; first | omega | (simp; omega) | (simp at hg; simp; omega)))); exact rfl)
        | refine SX.Store TYok (h := ?_)
        | apply RG.nil
        | apply Lex.nil
        | apply Then.n
        | apply Then.r
        | apply Then.x
        | apply InBlock.n
        | apply InBlock.r
        | apply InBlock.hit
        | (apply InBlock.miss; exact rfl)
        | apply W.seq
        | apply W.region
        | apply W.block
        | apply W.skip
        | apply W.ret
        | apply W.exit
        | (apply S_isnil TYok; exact rfl; exact rfl; exact rfl; exact Ev.auto; intro bn hnil)
        | (refine W.condA (ht := fun hb => ?_) (hf := fun hb => ?_) <;> (try simp at hb) <;> (try (exfalso; omega))))
      · obtain ⟨rfl, rfl⟩ := m1 (by omega)
        exact FinS.ret 0 rfl rfl rfl ResD.auto
      obtain ⟨m3, m4⟩ := m2 (by omega)
      apply W.loopP (σ := Nat × Int × List Int) 78 [0, 1, 2, 48] (fun (j, c, cu) => j ≤ P.length ∧ BackI cur v cu j c) (fun (j, c, cu) => [(49, vI j), (10, vI c)]) (fun (j, c, cu) => [(0, ⟨3, 1, (pre ++ cu ++ post).map encI⟩)]) (fun (j, c, cu) => P.length - j) ((0, 0, cur))
      case hp => repeat (first | exact Pick.nil | apply Pick.cons rfl)
      case h0 =>
        refine ⟨⟨by simp, rfl, g2.dig, rfl, by omega, by simp [val]⟩, ?_⟩
        exact Le.auto
      case round =>
        rintro ⟨j, c, cu⟩ ⟨f1, f2⟩
        have f3 := f2.len
        have f4 := f2.c0
        apply W.norm (by repeat (first | exact App.nil | apply App.cons))
        dsimp only
        by_cases hj : j < P.length
        · have n1 : nth (pre ++ cu ++ post) (pre.length + ((j : Int)).toNat) = nth cu j := nth_mid (by omega)
          have n2 : ∀ x, (pre ++ cu ++ post).set (pre.length + ((j : Int)).toNat) x = pre ++ cu.set j x ++ post := fun x => set_mid (by omega)
          have n3 := f2.dig.nth (show j < cu.length by omega)
          by_cases hv : j < v.length
          · have n4 := dv.nth hv
            repeat' (first
              | ((first | apply U_); (first
    | (apply Q_or20; exact Ev.auto; exact Ev.auto; (intro hg; first | omega | (simp; omega) | (simp at hg; simp; omega)))
    | (apply Q_shl20; exact Ev.auto; (intro hg; first | omega | (simp; omega) | (simp at hg; simp; omega)))
    | (apply Q_shr20; exact Ev.auto)
    | (apply Q_and1; exact Ev.auto)
    | (apply Q_mask20; exact Ev.auto)
    | exact QX.Move TYok
    | exact QX.Asg TYok
    | exact QX.Ld TYok
    | exact QX.Bin TYok
    | exact QX.Un TYok
    | exact QX.Len TYok
    | exact QX.Idx TYok
    | (apply Q_lenP TYok; exact Ev.auto; exact rfl; exact rfl)
    | (apply Q_indexP TYok; exact Ev.auto; exact Ev.auto; exact rfl; exact rfl; exact rfl; exact rfl; exact rfl; exact rfl; (intro hg; first | omega | (simp; omega) | (simp at hg; simp; omega)))
    | (apply Q_cutP TYok; exact Ev.auto; exact Ev.auto; exact rfl; exact rfl; exact rfl; exact rfl; (focus (simp; done)); (intro hg; first | omega | (simp; omega) | (simp at hg; simp; omega)))); exact rfl)
              | refine SX.Store TYok (h := ?_)
              | apply RG.nil
              | apply Lex.nil
              | apply Then.n
              | apply Then.r
              | apply Then.x
              | apply InBlock.n
              | apply InBlock.r
              | apply InBlock.hit
              | (apply InBlock.miss; exact rfl)
              | apply W.seq
              | apply W.region
              | apply W.block
              | apply W.skip
              | apply W.ret
              | apply W.exit
              | (apply S_isnil TYok; exact rfl; exact rfl; exact rfl; exact Ev.auto; intro bn hnil)
              | (refine W.condA (ht := fun hb => ?_) (hf := fun hb => ?_) <;> (try simp at hb) <;> (try (exfalso; omega))))
            refine ⟨(j + 1, (c + nth cu j + nth v j) / 1048576, cu.set j ((c + nth cu j + nth v j) % 1048576)), ⟨by omega, f2.step (by omega) dv (by rw [vj_yes hv])⟩, ?_, by (try simp only); omega⟩
            simp only [n1, n2]
            exact Le.auto
          · repeat' (first
              | ((first | apply U_); (first
    | (apply Q_or20; exact Ev.auto; exact Ev.auto; (intro hg; first | omega | (simp; omega) | (simp at hg; simp; omega)))
    | (apply Q_shl20; exact Ev.auto; (intro hg; first | omega | (simp; omega) | (simp at hg; simp; omega)))
    | (apply Q_shr20; exact Ev.auto)
    | (apply Q_and1; exact Ev.auto)
    | (apply Q_mask20; exact Ev.auto)
    | exact QX.Move TYok
    | exact QX.Asg TYok
    | exact QX.Ld TYok
    | exact QX.Bin TYok
    | exact QX.Un TYok
    | exact QX.Len TYok
    | exact QX.Idx TYok
    | (apply Q_lenP TYok; exact Ev.auto; exact rfl; exact rfl)
    | (apply Q_indexP TYok; exact Ev.auto; exact Ev.auto; exact rfl; exact rfl; exact rfl; exact rfl; exact rfl; exact rfl; (intro hg; first | omega | (simp; omega) | (simp at hg; simp; omega)))
    | (apply Q_cutP TYok; exact Ev.auto; exact Ev.auto; exact rfl; exact rfl; exact rfl; exact rfl; (focus (simp; done)); (intro hg; first | omega | (simp; omega) | (simp at hg; simp; omega)))); exact rfl)
              | refine SX.Store TYok (h := ?_)
              | apply RG.nil
              | apply Lex.nil
              | apply Then.n
              | apply Then.r
              | apply Then.x
              | apply InBlock.n
              | apply InBlock.r
              | apply InBlock.hit
              | (apply InBlock.miss; exact rfl)
              | apply W.seq
              | apply W.region
              | apply W.block
              | apply W.skip
              | apply W.ret
              | apply W.exit
              | (apply S_isnil TYok; exact rfl; exact rfl; exact rfl; exact Ev.auto; intro bn hnil)
              | (refine W.condA (ht := fun hb => ?_) (hf := fun hb => ?_) <;> (try simp at hb) <;> (try (exfalso; omega))))
            refine ⟨(j + 1, (c + nth cu j) / 1048576, cu.set j ((c + nth cu j) % 1048576)), ⟨by omega, f2.step (by omega) dv (by rw [vj_no hv, Int.add_zero])⟩, ?_, by (try simp only); omega⟩
            simp only [n1, n2]
            exact Le.auto
        · obtain rfl : j = P.length := by omega
          have e : cu = digL P.length (val P - q * val v) := by
            have := pw_mono (show v.length ≤ P.length by omega)
            have := val_hi dv
            rw [← g3]
            exact BackI.done (by rw [g3]; exact f2) (by omega) (by rw [g3]; exact m4) (by rw [g3]; omega)
          repeat' (first
            | ((first | apply U_); (first
    | exact QX.Move TYok
    | exact QX.Asg TYok
    | exact QX.Ld TYok
    | exact QX.Bin TYok
    | exact QX.Un TYok
    | exact QX.Len TYok
    | exact QX.Idx TYok
    | (apply Q_lenP TYok; exact Ev.auto; exact rfl; exact rfl)
    | (apply Q_indexP TYok; exact Ev.auto; exact Ev.auto; exact rfl; exact rfl; exact rfl; exact rfl; exact rfl; exact rfl; (intro hg; first | omega | (simp; omega) | (simp at hg; simp; omega)))
    | (apply Q_cutP TYok; exact Ev.auto; exact Ev.auto; exact rfl; exact rfl; exact rfl; exact rfl; (focus (simp; done)); (intro hg; first | omega | (simp; omega) | (simp at hg; simp; omega)))); exact rfl)
            | refine SX.Store TYok (h := ?_)
            | apply RG.nil
            | apply Lex.nil
            | apply Then.n
            | apply Then.r
            | apply Then.x
            | apply InBlock.n
            | apply InBlock.r
            | apply InBlock.hit
            | (apply InBlock.miss; exact rfl)
            | apply W.seq
            | apply W.region
            | apply W.block
            | apply W.skip
            | apply W.ret
            | apply W.exit
            | (apply S_isnil TYok; exact rfl; exact rfl; exact rfl; exact Ev.auto; intro bn hnil)
            | (refine W.condA (ht := fun hb => ?_) (hf := fun hb => ?_) <;> (try simp at hb) <;> (try (exfalso; omega))))
          rw [← e, ← m3]
          exact FinS.ret 0 rfl rfl rfl ResD.auto
end Go.Proofs.YtipghibmgfhmpaaGreatDoor
