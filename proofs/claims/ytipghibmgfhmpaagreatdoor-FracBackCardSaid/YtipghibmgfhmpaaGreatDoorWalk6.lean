/-
  Big integers: what is right, what is made, comparing.
-/
import Derived.Test.YtipghibmgfhmpaaGreatDoorWalk5
import Derived.Test.YtipghibmgfhmpaaGreatDoorLfBig
set_option linter.unusedVariables false
set_option linter.unusedSimpArgs false
set_option maxHeartbeats 8000000
namespace Go.Proofs.YtipghibmgfhmpaaGreatDoor
open Lf Go
attribute [local irreducible] PureOp EffOp Ev RG W Then InBlock Lf.Fin nth App InitE Pick SubE SubF SubG EvL EvD EvP EvR ResL Lf.Lex SubR SubBR RA RAll EvC FinO FinM ResM FinB ResD FinS val pw digs trimL

theorem right_ok (s : Int) (l : List Int) (hl : l.length ≤ 1000000) : ACalls Tryz.prog 50 [aB s l] (.pv (cB (rightB s l))) := by
  refine ACalls.of_W (qs := [cB (rightB s l)]) [2] 49 Tryz.func50 (by kernel_rfl) rfl rfl rfl fun G => ?_
  refine W.initA (hw := ?_)
  repeat' (first
    | ((first | apply U_ | (apply Ug_; exact rfl; exact rfl) | (apply Ugq_; exact rfl; exact rfl)); (first
    | exact QX.Move TYok
    | exact QX.Asg TYok
    | exact QX.Fld TYok
    | exact QX.Ld TYok
    | exact QX.Bin TYok
    | exact QX.Pick TYok
    | exact QX.Len TYok
    | exact QX.Idx TYok); exact rfl)
    | refine SX.Box TYok (h := ?_)
    | apply RG.nil
    | apply Lex.nil
    | apply Then.n
    | apply Then.r
    | apply Then.x
    | apply InBlock.n
    | apply InBlock.r
    | apply InBlock.hit
    | (apply InBlock.miss; exact rfl)
    | apply W.seq
    | apply W.region
    | apply W.block
    | apply W.skip
    | apply W.ret
    | apply W.exit
    | (apply S_isnil TYok; exact rfl; exact rfl; exact rfl; exact Ev.auto; intro bn hnil)
    | (apply RG.gT; exact rfl; exact rfl; (first | assumption | decide))
    | (apply RG.gF; exact rfl; exact rfl; (first | assumption | decide | (rw [ne_eq, Bool.not_eq_true]; assumption) | (rw [ne_eq, Bool.not_eq_false]; assumption)); exact rfl)
    | (refine W.condA (ht := fun hb => ?_) (hf := fun hb => ?_) <;> (try simp at hb) <;> (try (exfalso; omega))))
  apply W.loopP (σ := Nat) 49 [1, 3, 10, 11] (fun k => k ≤ l.length ∧ l.all digB = (l.drop k).all digB) (fun k => [(12, vI k)]) (fun _ => [(1, ⟨24, 2, [[.int .i64 s, .sl (l.map encI)]]⟩)]) (fun k => l.length - k) (0)
  case hp => repeat (first | exact Pick.nil | apply Pick.cons rfl)
  case h0 =>
    refine ⟨by simp, ?_⟩
    exact Le.auto
  case round =>
    rintro k ⟨g1, g2⟩
    apply W.norm (by repeat (first | exact App.nil | apply App.cons))
    by_cases hk : k < l.length
    · have e : l.all digB = (digB (nth l k) && (l.drop (k + 1)).all digB) := by rw [g2, drop_nth hk, List.all_cons]
      repeat' (first
        | ((first | apply U_ | (apply Ug_; exact rfl; exact rfl) | (apply Ugq_; exact rfl; exact rfl)); (first
    | exact QX.Move TYok
    | exact QX.Asg TYok
    | exact QX.Fld TYok
    | exact QX.Ld TYok
    | exact QX.Bin TYok
    | exact QX.Pick TYok
    | exact QX.Len TYok
    | exact QX.Idx TYok); exact rfl)
        | refine SX.Box TYok (h := ?_)
        | apply RG.nil
        | apply Lex.nil
        | apply Then.n
        | apply Then.r
        | apply Then.x
        | apply InBlock.n
        | apply InBlock.r
        | apply InBlock.hit
        | (apply InBlock.miss; exact rfl)
        | apply W.seq
        | apply W.region
        | apply W.block
        | apply W.skip
        | apply W.ret
        | apply W.exit
        | (apply S_isnil TYok; exact rfl; exact rfl; exact rfl; exact Ev.auto; intro bn hnil)
        | (apply RG.gT; exact rfl; exact rfl; (first | assumption | decide))
        | (apply RG.gF; exact rfl; exact rfl; (first | assumption | decide | (rw [ne_eq, Bool.not_eq_true]; assumption) | (rw [ne_eq, Bool.not_eq_false]; assumption)); exact rfl)
        | (refine W.condA (ht := fun hb => ?_) (hf := fun hb => ?_) <;> (try simp at hb) <;> (try (exfalso; omega))))
      · have e2 : rightB s l = false := by
          rw [rightB, e, show digB (nth l k) = false by
            simp only [digB, Bool.and_eq_false_iff, decide_eq_false_iff_not]; omega]; rfl
        rw [e2]
        exact Fin.ret ResL.auto
      · refine ⟨k + 1, ⟨by omega, ?_⟩, ?_, by omega⟩
        · rw [e, show digB (nth l k) = true by
            simp only [digB, Bool.and_eq_true, decide_eq_true_iff]; omega]; rfl
        · exact Le.auto
    · obtain rfl : k = l.length := by omega
      have e : l.all digB = true := by rw [g2, List.drop_length]; rfl
      by_cases h0 : l.length = 0
      · have e2 : rightB s l = decide (s = 0) := by rw [rightB, e, if_pos h0]; rfl
        repeat' (first
          | ((first | apply U_ | (apply Ug_; exact rfl; exact rfl) | (apply Ugq_; exact rfl; exact rfl)); (first
    | exact QX.Move TYok
    | exact QX.Asg TYok
    | exact QX.Fld TYok
    | exact QX.Ld TYok
    | exact QX.Bin TYok
    | exact QX.Pick TYok
    | exact QX.Len TYok
    | exact QX.Idx TYok); exact rfl)
          | refine SX.Box TYok (h := ?_)
          | apply RG.nil
          | apply Lex.nil
          | apply Then.n
          | apply Then.r
          | apply Then.x
          | apply InBlock.n
          | apply InBlock.r
          | apply InBlock.hit
          | (apply InBlock.miss; exact rfl)
          | apply W.seq
          | apply W.region
          | apply W.block
          | apply W.skip
          | apply W.ret
          | apply W.exit
          | (apply S_isnil TYok; exact rfl; exact rfl; exact rfl; exact Ev.auto; intro bn hnil)
          | (apply RG.gT; exact rfl; exact rfl; (first | assumption | decide))
          | (apply RG.gF; exact rfl; exact rfl; (first | assumption | decide | (rw [ne_eq, Bool.not_eq_true]; assumption) | (rw [ne_eq, Bool.not_eq_false]; assumption)); exact rfl)
          | (refine W.condA (ht := fun hb => ?_) (hf := fun hb => ?_) <;> (try simp at hb) <;> (try (exfalso; omega))))
        · rw [e2]
          exact Fin.ret ResL.auto
        · exact absurd (List.length_eq_zero_iff.1 h0) hb
      · have e2 : rightB s l = ((decide (s = 1) || decide (s = -1)) && decide ((l.length : Int) ≤ 60) && !decide (nth l ((l.length : Int) - 1).toNat = 0)) := by
          rw [rightB, e, if_neg h0, show ((l.length : Int) - 1).toNat = l.length - 1 by omega, show decide (l.length ≤ 60) = decide ((l.length : Int) ≤ 60) from decide_eq_decide.2 (by omega)]; rfl
        repeat' (first
          | ((first | apply U_ | (apply Ug_; exact rfl; exact rfl) | (apply Ugq_; exact rfl; exact rfl)); (first
    | exact QX.Move TYok
    | exact QX.Asg TYok
    | exact QX.Fld TYok
    | exact QX.Ld TYok
    | exact QX.Bin TYok
    | exact QX.Pick TYok
    | exact QX.Len TYok
    | exact QX.Idx TYok); exact rfl)
          | refine SX.Box TYok (h := ?_)
          | apply RG.nil
          | apply Lex.nil
          | apply Then.n
          | apply Then.r
          | apply Then.x
          | apply InBlock.n
          | apply InBlock.r
          | apply InBlock.hit
          | (apply InBlock.miss; exact rfl)
          | apply W.seq
          | apply W.region
          | apply W.block
          | apply W.skip
          | apply W.ret
          | apply W.exit
          | (apply S_isnil TYok; exact rfl; exact rfl; exact rfl; exact Ev.auto; intro bn hnil)
          | (apply RG.gT; exact rfl; exact rfl; (first | assumption | decide))
          | (apply RG.gF; exact rfl; exact rfl; (first | assumption | decide | (rw [ne_eq, Bool.not_eq_true]; assumption) | (rw [ne_eq, Bool.not_eq_false]; assumption)); exact rfl)
          | (refine W.condA (ht := fun hb => ?_) (hf := fun hb => ?_) <;> (try simp at hb) <;> (try (exfalso; omega))))
        · exact absurd (by rw [hb]; rfl) h0
        · rw [e2]
          exact Fin.ret ResL.auto
theorem right_yes {x : Int} (h : okZ x) : ACalls Tryz.prog 50 [zB x] (.pv (cB true)) := by
  rw [← num_right h]; exact right_ok _ _ (by have := num_len h; omega)
theorem signed_ok (s : Int) (l : List Int) (dl : Dig l) (hl : l.length ≤ 1000000) (z : Int) (hs : s = 1 ∨ s = -1 ∨ val l = 0) (hz : z = s * val l) : ACalls Tryz.prog 64 [cI s, slI l] (.pv (zB z)) := by
  obtain ⟨e1, e2⟩ := num_of (val_lo dl) hs hz
  have h1 := trim_ok l (by omega)
  rw [trim_digs dl] at h1
  rw [show zB z = aB (if val l = 0 then 0 else s) (digs (val l)) by rw [zB, e1, e2]]
  have h3 : (digs (val l)).length = 0 ↔ val l = 0 := by rw [List.length_eq_zero_iff, digs_nil (val_lo dl)]
  have h4 : (digs (val l)).length ≤ l.length := by rw [← trim_digs dl]; exact trimL_len l
  generalize digs (val l) = D at *
  refine ACalls.of_M TYok (qs := [aB (if val l = 0 then 0 else s) D]) [.cell 4 24] 14 Tryz.func64 (by kernel_rfl) rfl rfl rfl fun G => ?_
  refine W.initA (hw := ?_)
  repeat' (first
    | ((first | apply U_); (first
    | exact QX.Move TYok
    | exact QX.Asg TYok
    | exact QX.Bin TYok
    | exact QX.Len TYok
    | exact QX.Build TYok
    | (apply Q_calld (h1); exact EvD.auto)); exact rfl)
    | refine SX.Alloc TYok (h := ?_)
    | refine SX.Store TYok (h := ?_)
    | apply RG.nil
    | apply Lex.nil
    | apply Then.n
    | apply Then.r
    | apply Then.x
    | apply InBlock.n
    | apply InBlock.r
    | apply InBlock.hit
    | (apply InBlock.miss; exact rfl)
    | apply W.seq
    | apply W.region
    | apply W.block
    | apply W.skip
    | apply W.ret
    | apply W.exit
    | (apply S_isnil TYok; exact rfl; exact rfl; exact rfl; exact Ev.auto; intro bn hnil)
    | (refine W.condA (ht := fun hb => ?_) (hf := fun hb => ?_) <;> (try simp at hb) <;> (try (exfalso; omega))))
  · rw [hb, if_pos (h3.1 (by rw [hb]; rfl))]
    exact FinM.ret (ResM.cell rfl rfl rfl rfl zeroSub ResM.nil)
  · rw [if_neg (fun h => hb (List.length_eq_zero_iff.1 (h3.2 h)))]
    exact FinM.ret ResM.auto
/-- what is not too great -/
def fullZ (z : Int) : Int := if mag z < pw 60 then z else 0
def fullE (z : Int) : Int := if mag z < pw 60 then 0 else 6
theorem checked_yes (z : Int) (hl : (digs (mag z)).length ≤ 1000000) : ACalls Tryz.prog 63 [cB true, zB z] (.tup [zB (fullZ z), cI (fullE z)]) := by
  have h1 : (digs (mag z)).length ≤ 60 ↔ mag z < pw 60 := digs_len (mag_nn z)
  by_cases h : mag z < pw 60
  · rw [fullZ, fullE, if_pos h, if_pos h]
    have h2 := h1.2 h
    refine ACalls.of_M TYok (qs := [zB z, cI 0]) [.cell 4 24, .tmp 5] 17 Tryz.func63 (by kernel_rfl) rfl rfl rfl fun G => ?_
    refine W.initA (hw := ?_)
    repeat' (first
      | ((first | apply U_); (first
    | exact QX.Move TYok
    | exact QX.Asg TYok
    | exact QX.Fld TYok
    | exact QX.Ld TYok
    | exact QX.Bin TYok
    | exact QX.Un TYok
    | exact QX.Len TYok
    | exact QX.Build TYok); exact rfl)
      | refine SX.Alloc TYok (h := ?_)
      | refine SX.Store TYok (h := ?_)
      | refine SX.Box TYok (h := ?_)
      | apply RG.nil
      | apply Lex.nil
      | apply Then.n
      | apply Then.r
      | apply Then.x
      | apply InBlock.n
      | apply InBlock.r
      | apply InBlock.hit
      | (apply InBlock.miss; exact rfl)
      | apply W.seq
      | apply W.region
      | apply W.block
      | apply W.skip
      | apply W.ret
      | apply W.exit
      | (refine W.condA (ht := fun hb => ?_) (hf := fun hb => ?_) <;> (try simp at hb) <;> (try (exfalso; omega))))
    exact FinM.ret ResM.auto
  · rw [fullZ, fullE, if_neg h, if_neg h]
    have h2 : ¬ (digs (mag z)).length ≤ 60 := fun q => h (h1.1 q)
    refine ACalls.of_M TYok (qs := [zB 0, cI 6]) [.cell 4 24, .tmp 5] 17 Tryz.func63 (by kernel_rfl) rfl rfl rfl fun G => ?_
    refine W.initA (hw := ?_)
    repeat' (first
      | ((first | apply U_); (first
    | exact QX.Move TYok
    | exact QX.Asg TYok
    | exact QX.Fld TYok
    | exact QX.Ld TYok
    | exact QX.Bin TYok
    | exact QX.Un TYok
    | exact QX.Len TYok
    | exact QX.Build TYok); exact rfl)
      | refine SX.Alloc TYok (h := ?_)
      | refine SX.Store TYok (h := ?_)
      | refine SX.Box TYok (h := ?_)
      | apply RG.nil
      | apply Lex.nil
      | apply Then.n
      | apply Then.r
      | apply Then.x
      | apply InBlock.n
      | apply InBlock.r
      | apply InBlock.hit
      | (apply InBlock.miss; exact rfl)
      | apply W.seq
      | apply W.region
      | apply W.block
      | apply W.skip
      | apply W.ret
      | apply W.exit
      | (refine W.condA (ht := fun hb => ?_) (hf := fun hb => ?_) <;> (try simp at hb) <;> (try (exfalso; omega))))
    exact FinM.ret (ResM.cell rfl rfl rfl rfl zeroSubZ (ResM.tmp rfl rfl PSub.rfl' ResM.nil))
theorem checked_no : ACalls Tryz.prog 63 [cB false, .agg [.int .i64 0, .slnil]] (.tup [zB 0, cI 1]) := by
  refine ACalls.of_M TYok (qs := [zB 0, cI 1]) [.cell 4 24, .tmp 5] 17 Tryz.func63 (by kernel_rfl) rfl rfl rfl fun G => ?_
  refine W.initA (hw := ?_)
  repeat' (first
    | ((first | apply U_); (first
    | exact QX.Move TYok
    | exact QX.Asg TYok
    | exact QX.Fld TYok
    | exact QX.Ld TYok
    | exact QX.Bin TYok
    | exact QX.Un TYok
    | exact QX.Len TYok
    | exact QX.Build TYok); exact rfl)
    | refine SX.Alloc TYok (h := ?_)
    | refine SX.Store TYok (h := ?_)
    | refine SX.Box TYok (h := ?_)
    | apply RG.nil
    | apply Lex.nil
    | apply Then.n
    | apply Then.r
    | apply Then.x
    | apply InBlock.n
    | apply InBlock.r
    | apply InBlock.hit
    | (apply InBlock.miss; exact rfl)
    | apply W.seq
    | apply W.region
    | apply W.block
    | apply W.skip
    | apply W.ret
    | apply W.exit
    | (refine W.condA (ht := fun hb => ?_) (hf := fun hb => ?_) <;> (try simp at hb) <;> (try (exfalso; omega))))
  exact FinM.ret (ResM.cell rfl rfl rfl rfl zeroSubZ (ResM.tmp rfl rfl PSub.rfl' ResM.nil))
theorem orTwo_ok (x y : Int) : ACalls Tryz.prog 66 [slI [x, y]] (.pv (cI (if x = 0 then y else x))) := by
  have e0 : nth [x, y] 0 = x := by simp [nth]
  have e1 : nth [x, y] 1 = y := by simp [nth]
  have hl : [x, y].length = 2 := rfl
  generalize [x, y] = l at *
  refine ACalls.of_W (qs := [cI (if x = 0 then y else x)]) [2] 18 Tryz.func66 (by kernel_rfl) rfl rfl rfl fun G => ?_
  refine W.initA (hw := ?_)
  repeat' (first
    | ((first | apply U_); (first
    | exact QX.Move TYok
    | exact QX.Asg TYok
    | exact QX.Ld TYok
    | exact QX.Bin TYok
    | exact QX.Len TYok
    | exact QX.Idx TYok); exact rfl)
    | apply RG.nil
    | apply Lex.nil
    | apply Then.n
    | apply Then.r
    | apply Then.x
    | apply InBlock.n
    | apply InBlock.r
    | apply InBlock.hit
    | (apply InBlock.miss; exact rfl)
    | apply W.seq
    | apply W.region
    | apply W.block
    | apply W.skip
    | apply W.ret
    | apply W.exit
    | (refine W.condA (ht := fun hb => ?_) (hf := fun hb => ?_) <;> (try simp at hb) <;> (try (exfalso; omega))))
  apply W.loopP (σ := Nat) 18 [3, 6, 7] (fun k => k ≤ 2 ∧ (0 < k → x = 0) ∧ (1 < k → y = 0)) (fun k => [(8, vI k)]) (fun _ => []) (fun k => 2 - k) (0)
  case hp => repeat (first | exact Pick.nil | apply Pick.cons rfl)
  case h0 =>
    refine ⟨by simp, ?_⟩
    exact Le.auto
  case round =>
    rintro k ⟨g1, g2, g3⟩
    have hk : k = 0 ∨ k = 1 ∨ k = 2 := by omega
    have f0 : k = 0 → nth l k = x := by rintro rfl; exact e0
    have f1 : k = 1 → nth l k = y := by rintro rfl; exact e1
    apply W.norm (by repeat (first | exact App.nil | apply App.cons))
    repeat' (first
      | ((first | apply U_); (first
    | exact QX.Move TYok
    | exact QX.Asg TYok
    | exact QX.Ld TYok
    | exact QX.Bin TYok
    | exact QX.Len TYok
    | exact QX.Idx TYok); exact rfl)
      | apply RG.nil
      | apply Lex.nil
      | apply Then.n
      | apply Then.r
      | apply Then.x
      | apply InBlock.n
      | apply InBlock.r
      | apply InBlock.hit
      | (apply InBlock.miss; exact rfl)
      | apply W.seq
      | apply W.region
      | apply W.block
      | apply W.skip
      | apply W.ret
      | apply W.exit
      | (refine W.condA (ht := fun hb => ?_) (hf := fun hb => ?_) <;> (try simp at hb) <;> (try (exfalso; omega))))
    · have : nth l k = if x = 0 then y else x := by
        by_cases h : x = 0
        · rw [if_pos h]; omega
        · rw [if_neg h]; omega
      rw [← this]
      exact Fin.ret ResL.auto
    · refine ⟨k + 1, ⟨by omega, by omega, by omega⟩, ?_, by omega⟩
      exact Le.auto
    · have : (if x = 0 then y else x) = 0 := by rw [if_pos (g2 (by omega)), g3 (by omega)]
      rw [this]
      exact Fin.ret ResL.auto
theorem neg_ok (x : Int) (hx : okZ x) : ACalls Tryz.prog 39 [zB x] (.pv (zB (-x))) := by
  have h1 := right_yes hx
  have h2 := num_len hx
  have h3 := clone_ok (digs (mag x)) (by omega)
  have h4 := signed_ok (-(sgn x)) (digs (mag x)) (digs_norm _).dig (by omega) (-x) (by have := sgn_cases x; rw [val_mag]; omega) (by rw [val_mag, Int.neg_mul, sgn_mag])
  have hc := sgn_cases x
  refine ACalls.of_M TYok (qs := [zB (-x)]) [.cell 2 24] 14 Tryz.func39 (by kernel_rfl) rfl rfl rfl fun G => ?_
  refine W.initA (hw := ?_)
  repeat' (first
    | ((first | apply U_ | apply Lex.u | (apply Lex.g; exact rfl; exact rfl) | (apply Lex.gq; exact rfl; exact rfl)); (first
    | exact QX.Fld TYok
    | exact QX.Ld TYok
    | exact QX.Un TYok
    | exact QX.Build TYok
    | (apply Q_call (h1); exact EvL.auto; exact rfl)
    | (apply Q_calld (h3.data rfl); exact EvD.auto)
    | (apply Q_calld (h4); exact EvD.auto)); exact rfl)
    | refine SX.Alloc TYok (h := ?_)
    | refine SX.Store TYok (h := ?_)
    | refine SX.Box TYok (h := ?_)
    | apply RG.nil
    | apply Lex.nil
    | apply Then.n
    | apply Then.r
    | apply Then.x
    | apply InBlock.n
    | apply InBlock.r
    | apply InBlock.hit
    | (apply InBlock.miss; exact rfl)
    | apply W.seq
    | apply W.region
    | apply W.block
    | apply W.skip
    | apply W.ret
    | apply W.exit
    | (apply W.draw2 (id := 3) [0, 1, 3, 0, 8, 24, 63, 127] [[1], [7], [8], [1], [10], [11], [9, 12]] 7 [(7, 2), (8, 128), (9, 256), (10, 2), (11, 1024), (12, 2048), (13, 4608)] mixed (by kernel_rfl) rfl rfl)
    | (refine W.condA (ht := fun hb => ?_) (hf := fun hb => ?_) <;> (try simp at hb) <;> (try (exfalso; omega))))
  exact FinM.ret ResM.auto
theorem mul_sgn (x y : Int) : -1 ≤ sgn x * sgn y ∧ sgn x * sgn y ≤ 1 := by
  have h1 := sgn_cases x
  have h2 := sgn_cases y
  rcases h1 with h | h | h <;> rcases h2 with h' | h' | h' <;> rw [h.1, h'.1] <;> decide
theorem mulZ_ok (x y : Int) (hx : okZ x) (hy : okZ y) : ACalls Tryz.prog 36 [zB x, zB y] (.tup [zB (fullZ (x * y)), cI (fullE (x * y))]) := by
  have h1 := right_yes hx
  have h2 := right_yes hy
  have l1 := num_len hx
  have l2 := num_len hy
  have h3 := mul_ok (digs (mag x)) (digs (mag y)) (digs_norm _).dig (digs_norm _).dig (by omega) (by omega)
  rw [val_mag, val_mag] at h3
  have hs := mul_sgn x y
  have m0 : 0 ≤ mag x * mag y := Int.mul_nonneg (mag_nn x) (mag_nn y)
  have m1 : mag x * mag y < pw 120 := by
    have a1 : mag x * mag y ≤ mag x * pw 60 := Int.mul_le_mul_of_nonneg_left (by have := hy; unfold okZ at this; omega) (mag_nn x)
    have a2 : mag x * pw 60 < pw 60 * pw 60 := Int.mul_lt_mul_of_pos_right hx (pw_pos 60)
    have a3 : pw 120 = pw 60 * pw 60 := pw_add 60 60
    omega
  have l3 : (digs (mag x * mag y)).length ≤ 120 := (digs_len m0).2 m1
  have hsm : sgn x * sgn y = 1 ∨ sgn x * sgn y = -1 ∨ mag x * mag y = 0 := by
    have c1 := sgn_cases x
    have c2 := sgn_cases y
    rcases c1 with h | h | h <;> rcases c2 with h' | h' | h' <;> rw [h.1, h'.1] <;> simp [h.2.2, h'.2.2]
  have hz : x * y = sgn x * sgn y * (mag x * mag y) := by
    have e1 := sgn_mag x
    have e2 := sgn_mag y
    generalize sgn x = s1 at *
    generalize sgn y = s2 at *
    generalize mag x = p1 at *
    generalize mag y = p2 at *
    subst e1; subst e2; grind
  have h4 := signed_ok (sgn x * sgn y) (digs (mag x * mag y)) (digs_norm _).dig (by omega) (x * y) (by rw [val_digs m0]; exact hsm) (by rw [val_digs m0]; exact hz)
  obtain ⟨e1, e2⟩ := num_of m0 hsm hz
  have h5 := checked_yes (x * y) (by rw [e1]; omega)
  generalize x * y = z at *
  refine ACalls.of_M TYok (qs := [zB (fullZ z), cI (fullE z)]) [.cell 4 24, .tmp 5] 32 Tryz.func36 (by kernel_rfl) rfl rfl rfl fun G => ?_
  refine W.initA (hw := ?_)
  repeat' (first
    | ((first | apply U_ | (apply Ug_; exact rfl; exact rfl) | (apply Ugq_; exact rfl; exact rfl) | apply Lex.u | (apply Lex.g; exact rfl; exact rfl) | (apply Lex.gq; exact rfl; exact rfl)); (first
    | exact QX.Move TYok
    | exact QX.Asg TYok
    | exact QX.Fld TYok
    | exact QX.Ld TYok
    | exact QX.Bin TYok
    | exact QX.Pick TYok
    | exact QX.Un TYok
    | exact QX.Ext TYok
    | exact QX.Build TYok
    | (apply Q_call (h1); exact EvL.auto; exact rfl)
    | (apply Q_call (h2); exact EvL.auto; exact rfl)
    | (apply Q_calld (h3); exact EvD.auto)
    | (apply Q_calld (h4); exact EvD.auto)
    | (apply Q_calld (h5); exact EvD.auto)); exact rfl)
    | refine SX.Alloc TYok (h := ?_)
    | refine SX.Store TYok (h := ?_)
    | refine SX.Box TYok (h := ?_)
    | apply RG.nil
    | apply Lex.nil
    | apply Then.n
    | apply Then.r
    | apply Then.x
    | apply InBlock.n
    | apply InBlock.r
    | apply InBlock.hit
    | (apply InBlock.miss; exact rfl)
    | apply W.seq
    | apply W.region
    | apply W.block
    | apply W.skip
    | apply W.ret
    | apply W.exit
    | (apply RG.gT; exact rfl; exact rfl; (first | assumption | decide))
    | (apply RG.gF; exact rfl; exact rfl; (first | assumption | decide | (rw [ne_eq, Bool.not_eq_true]; assumption) | (rw [ne_eq, Bool.not_eq_false]; assumption)); exact rfl)
    | (apply W.draw2 (id := 3) [0, 1, 0, 4, 15, 0, 32, 0, 128, 480, 1023, 2047, 4095, 4095, 16383, 32767] [[2], [18], [3], [20], [19, 21], [2], [23], [3], [25], [24, 26], [22, 27], [28], [29], [29]] 14 [(18, 4), (19, 262144), (20, 8), (21, 1048576), (22, 2621440), (23, 4), (24, 8388608), (25, 8), (26, 33554432), (27, 83886080), (28, 138412032), (29, 268435456), (30, 536870912), (31, 536870912)] mixed (by kernel_rfl) rfl rfl)
    | (refine W.condA (ht := fun hb => ?_) (hf := fun hb => ?_) <;> (try simp at hb) <;> (try (exfalso; omega))))
  exact FinM.ret ResM.auto
end Go.Proofs.YtipghibmgfhmpaaGreatDoor
