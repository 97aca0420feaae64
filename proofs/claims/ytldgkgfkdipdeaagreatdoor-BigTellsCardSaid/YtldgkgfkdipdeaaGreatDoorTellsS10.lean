/-
  Part 10 of what the proof rests on.
-/
import Derived.Test.YtldgkgfkdipdeaaGreatDoorTellsS06
import Derived.Test.YtldgkgfkdipdeaaGreatDoorTellsS09
set_option linter.unusedVariables false
set_option linter.unusedSimpArgs false
set_option maxHeartbeats 8000000
namespace Go.Proofs.YtldgkgfkdipdeaaGreatDoor
open Lf Go
attribute [local irreducible] PureOp EffOp Ev RG W Then InBlock Lf.Fin nth App InitE Pick SubE EvL EvD EvP EvR ResL Lf.Lex SubR SubBR FinO FinM ResM ResD FinS val pw digs trimL
theorem rright_ok (s : Int) (l : List Int) (hl : l.length ≤ 9223372036854775807) : ACalls Tryz.prog 22 [aB s l] (.pv (cB (rightB s l))) := by
  refine ACalls.of_W (qs := [cB (rightB s l)]) [2] 60 Tryz.func22 (by kernel_rfl) rfl rfl rfl fun G => ?_
  refine W.initA (hw := ?_)
  repeat' (first | ((first | apply U_ | (apply Ug_; exact rfl; exact rfl) | (apply Ugq_; exact rfl; exact rfl)); (first | exact QX.Move TYok | exact QX.Asg TYok | exact QX.Fld TYok | exact QX.Ld TYok | exact QX.Bin TYok | exact QX.Pick TYok | exact QX.Len TYok | exact QX.Idx TYok); exact rfl) | refine SX.Box TYok (h := ?_) | apply RG.nil | apply Lex.nil | apply Then.n | apply Then.r | apply Then.x | apply InBlock.n | apply InBlock.r | apply InBlock.hit | (apply InBlock.miss; exact rfl) | apply W.seq | apply W.region | apply W.block | apply W.skip | apply W.ret | apply W.exit | (apply S_isnil TYok; exact rfl; exact rfl; exact rfl; exact Ev.auto; intro bn hnil) | (apply RG.gT; exact rfl; exact rfl; (first | assumption | decide)) | (apply RG.gF; exact rfl; exact rfl; (first | assumption | decide | (rw [ne_eq, Bool.not_eq_true]; assumption) | (rw [ne_eq, Bool.not_eq_false]; assumption)); exact rfl) | (refine W.condA (ht := fun hb => ?_) (hf := fun hb => ?_) <;> (try simp at hb) <;> (try (exfalso; omega))))
  apply W.loopP (σ := Nat) 60 [1] (fun k => k ≤ l.length ∧ l.all digB = (l.drop k).all digB) (fun k => [(3, vI k)]) (fun _ => [(1, ⟨24, 2, [[.int .i64 s, .sl (l.map Lf.encI)]]⟩)]) (fun k => l.length - k) (0)
  case hp => repeat (first | exact Pick.nil | apply Pick.cons rfl)
  case h0 =>
    refine ⟨by simp, ?_⟩
    exact Le.auto
  case round =>
    rintro k ⟨g1, g2⟩
    apply W.norm (by repeat (first | exact App.nil | apply App.cons))
    by_cases hk : k < l.length
    · have e : l.all digB = (digB (nth l k) && (l.drop (k + 1)).all digB) := by rw [g2, drop_nth hk, List.all_cons]
      repeat' (first | ((first | apply U_ | (apply Ug_; exact rfl; exact rfl) | (apply Ugq_; exact rfl; exact rfl)); (first | exact QX.Move TYok | exact QX.Asg TYok | exact QX.Fld TYok | exact QX.Ld TYok | exact QX.Bin TYok | exact QX.Pick TYok | exact QX.Len TYok | exact QX.Idx TYok); exact rfl) | refine SX.Box TYok (h := ?_) | apply RG.nil | apply Lex.nil | apply Then.n | apply Then.r | apply Then.x | apply InBlock.n | apply InBlock.r | apply InBlock.hit | (apply InBlock.miss; exact rfl) | apply W.seq | apply W.region | apply W.block | apply W.skip | apply W.ret | apply W.exit | (apply S_isnil TYok; exact rfl; exact rfl; exact rfl; exact Ev.auto; intro bn hnil) | (apply RG.gT; exact rfl; exact rfl; (first | assumption | decide)) | (apply RG.gF; exact rfl; exact rfl; (first | assumption | decide | (rw [ne_eq, Bool.not_eq_true]; assumption) | (rw [ne_eq, Bool.not_eq_false]; assumption)); exact rfl) | (refine W.condA (ht := fun hb => ?_) (hf := fun hb => ?_) <;> (try simp at hb) <;> (try (exfalso; omega))))
      · have e2 : rightB s l = false := by
          rw [rightB, e, show digB (nth l k) = false by
            simp only [digB, Bool.and_eq_false_iff, decide_eq_false_iff_not]; omega]; rfl
        rw [e2]
        exact Fin.ret ResL.auto
      · refine ⟨k + 1, ⟨by omega, ?_⟩, ?_, by omega⟩
        · rw [e, show digB (nth l k) = true by
            simp only [digB, Bool.and_eq_true, decide_eq_true_iff]; omega]; rfl
        · exact Le.auto
    · obtain rfl : k = l.length := by omega
      have e : l.all digB = true := by rw [g2, List.drop_length]; rfl
      by_cases h0 : l.length = 0
      · have e2 : rightB s l = decide (s = 0) := by rw [rightB, e, if_pos h0]; rfl
        have h1 : (l.length : Int) = 0 := by omega
        have hnil := List.length_eq_zero_iff.1 h0
        by_cases hs : s = 0
        · subst hs
          rw [show rightB 0 l = true from e2]
          repeat' (first | ((first | apply U_ | (apply Ug_; exact rfl; exact rfl) | (apply Ugq_; exact rfl; exact rfl)); (first | exact QX.Move TYok | exact QX.Asg TYok | exact QX.Fld TYok | exact QX.Ld TYok | exact QX.Bin TYok | exact QX.Pick TYok | exact QX.Len TYok | exact QX.Idx TYok | (apply Q_indexd TYok; exact Ev.auto; exact Ev.auto; exact rfl; exact rfl; exact rfl; (intro hg; exact getRowI (absurd h1 (of_decide_eq_false hg))); exact rfl)); exact rfl) | refine SX.Box TYok (h := ?_) | apply RG.nil | apply Lex.nil | apply Then.n | apply Then.r | apply Then.x | apply InBlock.n | apply InBlock.r | apply InBlock.hit | (apply InBlock.miss; exact rfl) | apply W.seq | apply W.region | apply W.block | apply W.skip | apply W.ret | apply W.exit | (apply S_isnil TYok; exact rfl; exact rfl; exact rfl; exact Ev.auto; intro bn hnil) | (apply RG.gT; exact rfl; exact rfl; (first | assumption | decide)) | (apply RG.gF; exact rfl; exact rfl; (first | assumption | decide | (rw [ne_eq, Bool.not_eq_true]; assumption) | (rw [ne_eq, Bool.not_eq_false]; assumption)); exact rfl) | (refine W.condA (ht := fun hb => ?_) (hf := fun hb => ?_) <;> (try simp at hb) <;> (try (exfalso; omega))))
          · exfalso
            rcases hb with h | h
            · omega
            · exact h hnil
          · rw [show (decide ((l.length : Int) = 0) || !decide (nth l ((l.length : Int) - 1).toNat = 0)) = true by rw [decide_eq_true h1]; rfl]
            exact Fin.ret ResL.auto
        · rw [e2, decide_eq_false hs]
          repeat' (first | ((first | apply U_ | (apply Ug_; exact rfl; exact rfl) | (apply Ugq_; exact rfl; exact rfl)); (first | exact QX.Move TYok | exact QX.Asg TYok | exact QX.Fld TYok | exact QX.Ld TYok | exact QX.Bin TYok | exact QX.Pick TYok | exact QX.Len TYok | exact QX.Idx TYok | (apply Q_indexd TYok; exact Ev.auto; exact Ev.auto; exact rfl; exact rfl; exact rfl; (intro hg; exact getRowI (absurd h1 (of_decide_eq_false hg))); exact rfl)); exact rfl) | refine SX.Box TYok (h := ?_) | apply RG.nil | apply Lex.nil | apply Then.n | apply Then.r | apply Then.x | apply InBlock.n | apply InBlock.r | apply InBlock.hit | (apply InBlock.miss; exact rfl) | apply W.seq | apply W.region | apply W.block | apply W.skip | apply W.ret | apply W.exit | (apply S_isnil TYok; exact rfl; exact rfl; exact rfl; exact Ev.auto; intro bn hnil) | (apply RG.gT; exact rfl; exact rfl; (first | assumption | decide)) | (apply RG.gF; exact rfl; exact rfl; (first | assumption | decide | (rw [ne_eq, Bool.not_eq_true]; assumption) | (rw [ne_eq, Bool.not_eq_false]; assumption)); exact rfl) | (refine W.condA (ht := fun hb => ?_) (hf := fun hb => ?_) <;> (try simp at hb) <;> (try (exfalso; omega))))
          · exact Fin.ret ResL.auto
          · exact absurd (hb.2.1 hnil) hs
      · have e2 : rightB s l = ((decide (s = 1) || decide (s = -1)) && decide ((l.length : Int) ≤ 60) && !decide (nth l ((l.length : Int) - 1).toNat = 0)) := by
          rw [rightB, e, if_neg h0, show ((l.length : Int) - 1).toNat = l.length - 1 by omega, show decide (l.length ≤ 60) = decide ((l.length : Int) ≤ 60) from decide_eq_decide.2 (by omega)]; rfl
        have hnil : ¬ l = [] := fun h => h0 (by rw [h]; rfl)
        repeat' (first | ((first | apply U_ | (apply Ug_; exact rfl; exact rfl) | (apply Ugq_; exact rfl; exact rfl)); (first | exact QX.Move TYok | exact QX.Asg TYok | exact QX.Fld TYok | exact QX.Ld TYok | exact QX.Bin TYok | exact QX.Pick TYok | exact QX.Len TYok | exact QX.Idx TYok); exact rfl) | refine SX.Box TYok (h := ?_) | apply RG.nil | apply Lex.nil | apply Then.n | apply Then.r | apply Then.x | apply InBlock.n | apply InBlock.r | apply InBlock.hit | (apply InBlock.miss; exact rfl) | apply W.seq | apply W.region | apply W.block | apply W.skip | apply W.ret | apply W.exit | (apply S_isnil TYok; exact rfl; exact rfl; exact rfl; exact Ev.auto; intro bn hnil) | (apply RG.gT; exact rfl; exact rfl; (first | assumption | decide)) | (apply RG.gF; exact rfl; exact rfl; (first | assumption | decide | (rw [ne_eq, Bool.not_eq_true]; assumption) | (rw [ne_eq, Bool.not_eq_false]; assumption)); exact rfl) | (refine W.condA (ht := fun hb => ?_) (hf := fun hb => ?_) <;> (try simp at hb) <;> (try (exfalso; omega))))
        · have e3 : rightB s l = false := by
            simp only [hnil, false_iff, Classical.not_not] at hb
            rw [e2, Bool.and_eq_false_iff, Bool.and_eq_false_iff]
            by_cases s1 : s = 1 ∨ s = -1
            · exact .inl (.inr (decide_eq_false (by omega)))
            · exact .inl (.inl (by rw [Bool.or_eq_false_iff]; exact ⟨decide_eq_false (by omega), decide_eq_false (by omega)⟩))
          rw [e3]
          exact Fin.ret ResL.auto
        · simp only [hnil, false_iff] at hb
          have e3 : rightB s l = (decide ((l.length : Int) = 0) || !decide (nth l ((l.length : Int) - 1).toNat = 0)) := by
            rw [e2, show decide ((l.length : Int) = 0) = false from decide_eq_false (by omega), show (decide (s = 1) || decide (s = -1)) = true by
              rw [Bool.or_eq_true, decide_eq_true_iff, decide_eq_true_iff]; omega, decide_eq_true hb.1.2]; rfl
          rw [e3]
          exact Fin.ret ResL.auto
theorem rmade_ok (s : Int) (l : List Int) (dl : Dig l) (hl : l.length ≤ 1000000) (z : Int) (hs : s = 1 ∨ s = -1 ∨ val l = 0) (hz : z = s * val l) : ACalls Tryz.prog 40 [cI s, slI l] (.pv (zB z)) := by
  obtain ⟨e1, e2⟩ := num_of (val_lo dl) hs hz
  have h1 := rtrim_ok l (by omega)
  rw [trim_digs dl] at h1
  rw [show zB z = aB (if val l = 0 then 0 else s) (digs (val l)) by rw [zB, e1, e2]]
  have h3 : (digs (val l)).length = 0 ↔ val l = 0 := by rw [List.length_eq_zero_iff, digs_nil (val_lo dl)]
  have h4 : (digs (val l)).length ≤ l.length := by rw [← trim_digs dl]; exact trimL_len l
  generalize digs (val l) = D at *
  refine ACalls.of_M TYok (qs := [aB (if val l = 0 then 0 else s) D]) [.cell 4 24] 15 Tryz.func40 (by kernel_rfl) rfl rfl rfl fun G => ?_
  refine W.initA (hw := ?_)
  repeat' (first | ((first | apply U_); (first | exact QX.Move TYok | exact QX.Asg TYok | exact QX.Bin TYok | exact QX.Len TYok | exact QX.Build TYok | (apply Q_calld (h1); exact EvD.auto)); exact rfl) | refine SX.Alloc TYok (h := ?_) | refine SX.Store TYok (h := ?_) | apply RG.nil | apply Lex.nil | apply Then.n | apply Then.r | apply Then.x | apply InBlock.n | apply InBlock.r | apply InBlock.hit | (apply InBlock.miss; exact rfl) | apply W.seq | apply W.region | apply W.block | apply W.skip | apply W.ret | apply W.exit | (apply S_isnil TYok; exact rfl; exact rfl; exact rfl; exact Ev.auto; intro bn hnil) | (refine W.condA (ht := fun hb => ?_) (hf := fun hb => ?_) <;> (try simp at hb) <;> (try (exfalso; omega))))
  · rw [hb, if_pos (h3.1 (by rw [hb]; rfl))]
    exact FinM.ret (ResM.cell rfl rfl rfl rfl zeroSub ResM.nil)
  · rw [if_neg (fun h => hb (List.length_eq_zero_iff.1 (h3.2 h)))]
    exact FinM.ret ResM.auto
theorem rkept_ok (z : Int) (hl : (digs (mag z)).length ≤ 1000000) : ACalls Tryz.prog 39 [zB z] (.tup [zB (fullZ z), cI (fullE z)]) := by
  have h1 : (digs (mag z)).length ≤ 60 ↔ mag z < pw 60 := digs_len (mag_nn z)
  by_cases h : mag z < pw 60
  · rw [fullZ, fullE, if_pos h, if_pos h]
    have h2 := h1.2 h
    refine ACalls.of_M TYok (qs := [zB z, cI 0]) [.cell 2 24, .tmp 3] 10 Tryz.func39 (by kernel_rfl) rfl rfl rfl fun G => ?_
    refine W.initA (hw := ?_)
    repeat' (first | ((first | apply U_); (first | exact QX.Asg TYok | exact QX.Fld TYok | exact QX.Ld TYok | exact QX.Bin TYok | exact QX.Len TYok | exact QX.Build TYok); exact rfl) | refine SX.Alloc TYok (h := ?_) | refine SX.Store TYok (h := ?_) | refine SX.Box TYok (h := ?_) | apply RG.nil | apply Lex.nil | apply Then.n | apply Then.r | apply Then.x | apply InBlock.n | apply InBlock.r | apply InBlock.hit | (apply InBlock.miss; exact rfl) | apply W.seq | apply W.region | apply W.block | apply W.skip | apply W.ret | apply W.exit | (refine W.condA (ht := fun hb => ?_) (hf := fun hb => ?_) <;> (try simp at hb) <;> (try (exfalso; omega))))
    exact FinM.ret ResM.auto
  · rw [fullZ, fullE, if_neg h, if_neg h]
    have h2 : ¬ (digs (mag z)).length ≤ 60 := fun q => h (h1.1 q)
    refine ACalls.of_M TYok (qs := [zB 0, cI 6]) [.cell 2 24, .tmp 3] 10 Tryz.func39 (by kernel_rfl) rfl rfl rfl fun G => ?_
    refine W.initA (hw := ?_)
    repeat' (first | ((first | apply U_); (first | exact QX.Asg TYok | exact QX.Fld TYok | exact QX.Ld TYok | exact QX.Bin TYok | exact QX.Len TYok | exact QX.Build TYok); exact rfl) | refine SX.Alloc TYok (h := ?_) | refine SX.Store TYok (h := ?_) | refine SX.Box TYok (h := ?_) | apply RG.nil | apply Lex.nil | apply Then.n | apply Then.r | apply Then.x | apply InBlock.n | apply InBlock.r | apply InBlock.hit | (apply InBlock.miss; exact rfl) | apply W.seq | apply W.region | apply W.block | apply W.skip | apply W.ret | apply W.exit | (refine W.condA (ht := fun hb => ?_) (hf := fun hb => ?_) <;> (try simp at hb) <;> (try (exfalso; omega))))
    exact FinM.ret (ResM.cell rfl rfl rfl rfl zeroSubZ (ResM.tmp rfl rfl PSub.rfl' ResM.nil))
theorem rright_yes {x : Int} (h : okZ x) : ACalls Tryz.prog 22 [zB x] (.pv (cB true)) := by
  rw [← num_right h]; exact rright_ok _ _ (by have := num_len h; omega)
theorem rneg_ok (x : Int) (hx : okZ x) : ACalls Tryz.prog 29 [zB x] (.pv (zB (-x))) := by
  have h1 := rright_yes hx
  have h2 := num_len hx
  have h4 := rmade_ok (-(sgn x)) (digs (mag x)) (digs_norm _).dig (by omega) (-x) (by have := sgn_cases x; rw [val_mag]; omega) (by rw [val_mag, Int.neg_mul, sgn_mag])
  have hc := sgn_cases x
  refine ACalls.of_M TYok (qs := [zB (-x)]) [.cell 2 24] 13 Tryz.func29 (by kernel_rfl) rfl rfl rfl fun G => ?_
  refine W.initA (hw := ?_)
  repeat' (first | ((first | apply U_); (first | exact QX.Fld TYok | exact QX.Ld TYok | exact QX.Un TYok | exact QX.Build TYok | (apply Q_call (h1); exact EvL.auto; exact rfl) | (apply Q_calld (h4); exact EvD.auto)); exact rfl) | refine SX.Alloc TYok (h := ?_) | refine SX.Store TYok (h := ?_) | refine SX.Box TYok (h := ?_) | apply RG.nil | apply Lex.nil | apply Then.n | apply Then.r | apply Then.x | apply InBlock.n | apply InBlock.r | apply InBlock.hit | (apply InBlock.miss; exact rfl) | apply W.seq | apply W.region | apply W.block | apply W.skip | apply W.ret | apply W.exit | (refine W.condA (ht := fun hb => ?_) (hf := fun hb => ?_) <;> (try simp at hb) <;> (try (exfalso; omega))))
  exact FinM.ret ResM.auto
theorem rneg_no (s : Int) (l : List Int) (hl : l.length ≤ 9223372036854775807) (h : rightB s l = false) : ACalls Tryz.prog 29 [aB s l] (.pv (zB 0)) := by
  have h1 := rright_ok s l hl
  rw [h] at h1
  refine ACalls.of_M TYok (qs := [zB 0]) [.cell 2 24] 13 Tryz.func29 (by kernel_rfl) rfl rfl rfl fun G => ?_
  refine W.initA (hw := ?_)
  repeat' (first | ((first | apply U_); (first | exact QX.Fld TYok | exact QX.Ld TYok | exact QX.Un TYok | exact QX.Build TYok | (apply Q_call (h1); exact EvL.auto; exact rfl)); exact rfl) | refine SX.Alloc TYok (h := ?_) | refine SX.Store TYok (h := ?_) | refine SX.Box TYok (h := ?_) | apply RG.nil | apply Lex.nil | apply Then.n | apply Then.r | apply Then.x | apply InBlock.n | apply InBlock.r | apply InBlock.hit | (apply InBlock.miss; exact rfl) | apply W.seq | apply W.region | apply W.block | apply W.skip | apply W.ret | apply W.exit | (refine W.condA (ht := fun hb => ?_) (hf := fun hb => ?_) <;> (try simp at hb) <;> (try (exfalso; omega))))
  exact FinM.ret (ResM.cell rfl rfl rfl rfl zeroSubZ ResM.nil)
theorem rmulZ_ok (x y : Int) (hx : okZ x) (hy : okZ y) : ACalls Tryz.prog 11 [zB x, zB y] (.tup [zB (fullZ (x * y)), cI (fullE (x * y))]) := by
  have h1 := rright_yes hx
  have h2 := rright_yes hy
  have l1 := num_len hx
  have l2 := num_len hy
  have h3 := rtimes_ok (digs (mag x)) (digs (mag y)) (digs_norm _).dig (digs_norm _).dig (by omega) (by omega)
  rw [val_mag, val_mag] at h3
  have hs := mul_sgn x y
  have m0 : 0 ≤ mag x * mag y := Int.mul_nonneg (mag_nn x) (mag_nn y)
  have m1 : mag x * mag y < pw 120 := by
    have a1 : mag x * mag y ≤ mag x * pw 60 := Int.mul_le_mul_of_nonneg_left (by have := hy; unfold okZ at this; omega) (mag_nn x)
    have a2 : mag x * pw 60 < pw 60 * pw 60 := Int.mul_lt_mul_of_pos_right hx (pw_pos 60)
    have a3 : pw 120 = pw 60 * pw 60 := pw_add 60 60
    omega
  have l3 : (digs (mag x * mag y)).length ≤ 120 := (digs_len m0).2 m1
  have hsm : sgn x * sgn y = 1 ∨ sgn x * sgn y = -1 ∨ mag x * mag y = 0 := by
    have c1 := sgn_cases x
    have c2 := sgn_cases y
    rcases c1 with h | h | h <;> rcases c2 with h' | h' | h' <;> rw [h.1, h'.1] <;> simp [h.2.2, h'.2.2]
  have hz : x * y = sgn x * sgn y * (mag x * mag y) := by
    have e1 := sgn_mag x
    have e2 := sgn_mag y
    generalize sgn x = s1 at *
    generalize sgn y = s2 at *
    generalize mag x = p1 at *
    generalize mag y = p2 at *
    subst e1; subst e2; grind
  have h4 := rmade_ok (sgn x * sgn y) (digs (mag x * mag y)) (digs_norm _).dig (by omega) (x * y) (by rw [val_digs m0]; exact hsm) (by rw [val_digs m0]; exact hz)
  obtain ⟨e1, e2⟩ := num_of m0 hsm hz
  have h5 := rkept_ok (x * y) (by rw [e1]; omega)
  generalize x * y = z at *
  refine ACalls.of_M TYok (qs := [zB (fullZ z), cI (fullE z)]) [.cell 4 24, .tmp 5] 29 Tryz.func11 (by kernel_rfl) rfl rfl rfl fun G => ?_
  refine W.initA (hw := ?_)
  repeat' (first | ((first | apply U_ | (apply Ug_; exact rfl; exact rfl) | (apply Ugq_; exact rfl; exact rfl) | apply Lex.u | (apply Lex.g; exact rfl; exact rfl) | (apply Lex.gq; exact rfl; exact rfl)); (first | exact QX.Move TYok | exact QX.Asg TYok | exact QX.Fld TYok | exact QX.Ld TYok | exact QX.Bin TYok | exact QX.Pick TYok | exact QX.Un TYok | exact QX.Ext TYok | exact QX.Build TYok | (apply Q_call (h1); exact EvL.auto; exact rfl) | (apply Q_call (h2); exact EvL.auto; exact rfl) | (apply Q_calld (h3); exact EvD.auto) | (apply Q_calld (h4); exact EvD.auto) | (apply Q_calld (h5); exact EvD.auto)); exact rfl) | refine SX.Alloc TYok (h := ?_) | refine SX.Store TYok (h := ?_) | refine SX.Box TYok (h := ?_) | apply RG.nil | apply Lex.nil | apply Then.n | apply Then.r | apply Then.x | apply InBlock.n | apply InBlock.r | apply InBlock.hit | (apply InBlock.miss; exact rfl) | apply W.seq | apply W.region | apply W.block | apply W.skip | apply W.ret | apply W.exit | (apply RG.gT; exact rfl; exact rfl; (first | assumption | decide)) | (apply RG.gF; exact rfl; exact rfl; (first | assumption | decide | (rw [ne_eq, Bool.not_eq_true]; assumption) | (rw [ne_eq, Bool.not_eq_false]; assumption)); exact rfl) | (apply W.draw2 (id := 3) [0, 1, 0, 4, 15, 0, 32, 0, 128, 480, 1023, 2047, 4095, 4095, 16383, 32767] [[2], [15], [3], [17], [16, 18], [2], [20], [3], [22], [21, 23], [19, 24], [25], [26], [26]] 14 [(15, 4), (16, 32768), (17, 8), (18, 131072), (19, 327680), (20, 4), (21, 1048576), (22, 8), (23, 4194304), (24, 10485760), (25, 17301504), (26, 33554432), (27, 67108864), (28, 67108864)] mixed (by kernel_rfl) rfl rfl) | (refine W.condA (ht := fun hb => ?_) (hf := fun hb => ?_) <;> (try simp at hb) <;> (try (exfalso; omega))))
  exact FinM.ret ResM.auto
theorem Q_orS {P : Program} {G : Ghost} {n0 : Nat} {env : List (Nat × (Prop × AV))} {bl : List (Nat × Blk)} {p : Prop} {dst : Option Nat} {ty : TypeId} {pos : String} {after : Array Edge} {gd : Option (Nat × Bool)} {xt yt : Nat} {x y : Operand} {m n r : Int} (hr : bits .or .i64 m n = r) (hx : Ev (St.mk n0 env bl) p x (.pv (.one (.int .i64 m)))) (hy : Ev (St.mk n0 env bl) p y (.pv (.one (.int .i64 n)))) :
    PureOp P G (St.mk n0 env bl) ⟨dst, .binOp .or xt x y yt, ty, pos, after, gd⟩ p (.pv (.one (.int .i64 r))) := P_bin (o := ⟨dst, .binOp .or xt x y yt, ty, pos, after, gd⟩) rfl hx hy (by simp only [binI]; rw [hr])
theorem raddZ_ok (x y : Int) (hx : okZ x) (hy : okZ y) : ACalls Tryz.prog 7 [zB x, zB y] (.tup [zB (fullZ (x + y)), cI (fullE (x + y))]) := by
  have h1 := rright_yes hx
  have h2 := rright_yes hy
  have l1 := num_len hx
  have l2 := num_len hy
  have c1 := sgn_cases x
  have c2 := sgn_cases y
  have mx := mag_nn x
  have my := mag_nn y
  have hx' := hx
  have hy' := hy
  unfold okZ at hx' hy'
  have hz61 : mag (x + y) < pw 61 := by
    have := sgn_cases (x + y)
    have : pw 61 = 1048576 * pw 60 := pw_succ 60
    omega
  have l5 : (digs (mag (x + y))).length ≤ 61 := (digs_len (mag_nn _)).2 hz61
  have h5 := rkept_ok (x + y) (by omega)
  by_cases hc : sgn x = 0 ∨ sgn y = 0 ∨ sgn x = sgn y
  · have h3 := rplus_ok (digs (mag x)) (digs (mag y)) (digs_norm _).dig (digs_norm _).dig (by omega) (by omega)
    rw [val_mag, val_mag] at h3
    have e0 : x + y = (if sgn x = 0 then sgn y else sgn x) * (mag x + mag y) ∧ ((if sgn x = 0 then sgn y else sgn x) = 1 ∨ (if sgn x = 0 then sgn y else sgn x) = -1 ∨ mag x + mag y = 0) := by
      rcases c1 with h | h | h <;> rcases c2 with h' | h' | h' <;> rw [h.1, h'.1] at hc ⊢ <;> rw [h.2.2, h'.2.2] <;> simp at hc ⊢ <;> omega
    have hor : bits .or .i64 (sgn x) (sgn y) = (if sgn x = 0 then sgn y else sgn x) := by
      rcases c1 with h | h | h <;> rcases c2 with h' | h' | h' <;> rw [h.1, h'.1] at hc ⊢ <;> first | rfl | decide | (exfalso; omega)
    have em : mag (x + y) = mag x + mag y := (num_of (by omega) e0.2 e0.1).1
    have h4 := rmade_ok (if sgn x = 0 then sgn y else sgn x) (digs (mag x + mag y)) (digs_norm _).dig (by rw [← em]; omega) (x + y) (by rw [val_digs (by omega)]; exact e0.2) (by rw [val_digs (by omega)]; exact e0.1)
    generalize (if sgn x = 0 then sgn y else sgn x) = s at *
    generalize x + y = z at *
    refine ACalls.of_M TYok (qs := [zB (fullZ z), cI (fullE z)]) [.cell 4 24, .tmp 5] 71 Tryz.func7 (by kernel_rfl) rfl rfl rfl fun G => ?_
    refine W.initA (hw := ?_)
    repeat' (first | ((first | apply U_ | (apply Ug_; exact rfl; exact rfl) | (apply Ugq_; exact rfl; exact rfl) | apply Lex.u | (apply Lex.g; exact rfl; exact rfl) | (apply Lex.gq; exact rfl; exact rfl)); (first | (apply Q_orS hor; exact Ev.auto; exact Ev.auto) | exact QX.Move TYok | exact QX.Asg TYok | exact QX.Fld TYok | exact QX.Ld TYok | exact QX.Bin TYok | exact QX.Pick TYok | exact QX.Un TYok | exact QX.Ext TYok | exact QX.Build TYok | (apply Q_call (h1); exact EvL.auto; exact rfl) | (apply Q_call (h2); exact EvL.auto; exact rfl) | (apply Q_calld (h3); exact EvD.auto) | (apply Q_calld (h4); exact EvD.auto) | (apply Q_calld (h5); exact EvD.auto)); exact rfl) | refine SX.Alloc TYok (h := ?_) | refine SX.Store TYok (h := ?_) | refine SX.Box TYok (h := ?_) | apply RG.nil | apply Lex.nil | apply Then.n | apply Then.r | apply Then.x | apply InBlock.n | apply InBlock.r | apply InBlock.hit | (apply InBlock.miss; exact rfl) | apply W.seq | apply W.region | apply W.block | apply W.skip | apply W.ret | apply W.exit | (apply S_isnil TYok; exact rfl; exact rfl; exact rfl; exact Ev.auto; intro bn hnil) | (apply RG.gT; exact rfl; exact rfl; (first | assumption | decide)) | (apply RG.gF; exact rfl; exact rfl; (first | assumption | decide | (rw [ne_eq, Bool.not_eq_true]; assumption) | (rw [ne_eq, Bool.not_eq_false]; assumption)); exact rfl) | (apply W.draw2 (id := 4) [0, 1, 0, 4, 15, 0, 32, 0, 128, 480, 1023, 2047, 4095, 4095, 16383, 32767] [[2], [30], [3], [32], [31, 33], [2], [35], [3], [37], [36, 38], [34, 39], [40], [41], [41]] 14 [(30, 4), (31, 1073741824), (32, 8), (33, 4294967296), (34, 10737418240), (35, 4), (36, 34359738368), (37, 8), (38, 137438953472), (39, 343597383680), (40, 566935683072), (41, 1099511627776), (42, 2199023255552), (43, 2199023255552)] mixed (by kernel_rfl) rfl rfl) | (apply W.draw2 (id := 6) [0, 1, 0, 4, 0, 16, 60, 127, 255, 511, 511, 2047, 4095] [[3], [49], [3], [51], [2], [53], [52, 54], [50, 55], [56], [57], [57]] 11 [(49, 8), (50, 562949953421312), (51, 8), (52, 2251799813685248), (53, 4), (54, 9007199254740992), (55, 22517998136852480), (56, 37154696925806592), (57, 72057594037927936), (58, 144115188075855872), (59, 144115188075855872)] mixed (by kernel_rfl) rfl rfl) | (apply W.draw2 (id := 7) [0, 1, 0, 4, 0, 16, 60, 127, 255, 511, 511, 2047, 4095] [[2], [60], [2], [62], [3], [64], [63, 65], [61, 66], [67], [68], [68]] 11 [(60, 4), (61, 1152921504606846976), (62, 4), (63, 4611686018427387904), (64, 8), (65, 18446744073709551616), (66, 46116860184273879040), (67, 76092819304051900416), (68, 147573952589676412928), (69, 295147905179352825856), (70, 295147905179352825856)] mixed (by kernel_rfl) rfl rfl) | (refine W.condA (ht := fun hb => ?_) (hf := fun hb => ?_) <;> (try simp at hb) <;> (try (exfalso; omega))))
    all_goals first | exact FinM.ret ResM.auto | (exfalso; omega)
  · have h6 := rless_ok (digs (mag x)) (digs (mag y)) (digs_norm _).dig (digs_norm _).dig (by omega) (by omega)
    rw [val_mag, val_mag] at h6
    by_cases hlt : mag x < mag y
    · have h3 := rminus_ok (digs (mag y)) (digs (mag x)) (digs_norm _).dig (digs_norm _).dig (by omega) (digs_mono mx (by omega)) (by rw [val_mag, val_mag]; omega)
      rw [val_mag, val_mag] at h3
      have e0 : x + y = sgn y * (mag y - mag x) ∧ (sgn y = 1 ∨ sgn y = -1 ∨ mag y - mag x = 0) := by
        rcases c1 with h | h | h <;> rcases c2 with h' | h' | h' <;> rw [h.1, h'.1] at hc <;> rw [h'.1, h.2.2, h'.2.2] <;> simp at hc ⊢ <;> omega
      have em : mag (x + y) = mag y - mag x := (num_of (by omega) e0.2 e0.1).1
      have h4 := rmade_ok (sgn y) (digs (mag y - mag x)) (digs_norm _).dig (by rw [← em]; omega) (x + y) (by rw [val_digs (by omega)]; exact e0.2) (by rw [val_digs (by omega)]; exact e0.1)
      rw [decide_eq_true hlt] at h6
      generalize x + y = z at *
      refine ACalls.of_M TYok (qs := [zB (fullZ z), cI (fullE z)]) [.cell 4 24, .tmp 5] 71 Tryz.func7 (by kernel_rfl) rfl rfl rfl fun G => ?_
      refine W.initA (hw := ?_)
      repeat' (first | ((first | apply U_ | (apply Ug_; exact rfl; exact rfl) | (apply Ugq_; exact rfl; exact rfl) | apply Lex.u | (apply Lex.g; exact rfl; exact rfl) | (apply Lex.gq; exact rfl; exact rfl)); (first | exact QX.Move TYok | exact QX.Asg TYok | exact QX.Fld TYok | exact QX.Ld TYok | exact QX.Bin TYok | exact QX.Pick TYok | exact QX.Un TYok | exact QX.Ext TYok | exact QX.Build TYok | (apply Q_call (h1); exact EvL.auto; exact rfl) | (apply Q_call (h2); exact EvL.auto; exact rfl) | (apply Q_calld (h3); exact EvD.auto) | (apply Q_calld (h4); exact EvD.auto) | (apply Q_calld (h5); exact EvD.auto) | (apply Q_call (h6); exact EvL.auto; exact rfl)); exact rfl) | refine SX.Alloc TYok (h := ?_) | refine SX.Store TYok (h := ?_) | refine SX.Box TYok (h := ?_) | apply RG.nil | apply Lex.nil | apply Then.n | apply Then.r | apply Then.x | apply InBlock.n | apply InBlock.r | apply InBlock.hit | (apply InBlock.miss; exact rfl) | apply W.seq | apply W.region | apply W.block | apply W.skip | apply W.ret | apply W.exit | (apply S_isnil TYok; exact rfl; exact rfl; exact rfl; exact Ev.auto; intro bn hnil) | (apply RG.gT; exact rfl; exact rfl; (first | assumption | decide)) | (apply RG.gF; exact rfl; exact rfl; (first | assumption | decide | (rw [ne_eq, Bool.not_eq_true]; assumption) | (rw [ne_eq, Bool.not_eq_false]; assumption)); exact rfl) | (apply W.draw2 (id := 4) [0, 1, 0, 4, 15, 0, 32, 0, 128, 480, 1023, 2047, 4095, 4095, 16383, 32767] [[2], [30], [3], [32], [31, 33], [2], [35], [3], [37], [36, 38], [34, 39], [40], [41], [41]] 14 [(30, 4), (31, 1073741824), (32, 8), (33, 4294967296), (34, 10737418240), (35, 4), (36, 34359738368), (37, 8), (38, 137438953472), (39, 343597383680), (40, 566935683072), (41, 1099511627776), (42, 2199023255552), (43, 2199023255552)] mixed (by kernel_rfl) rfl rfl) | (apply W.draw2 (id := 6) [0, 1, 0, 4, 0, 16, 60, 127, 255, 511, 511, 2047, 4095] [[3], [49], [3], [51], [2], [53], [52, 54], [50, 55], [56], [57], [57]] 11 [(49, 8), (50, 562949953421312), (51, 8), (52, 2251799813685248), (53, 4), (54, 9007199254740992), (55, 22517998136852480), (56, 37154696925806592), (57, 72057594037927936), (58, 144115188075855872), (59, 144115188075855872)] mixed (by kernel_rfl) rfl rfl) | (apply W.draw2 (id := 7) [0, 1, 0, 4, 0, 16, 60, 127, 255, 511, 511, 2047, 4095] [[2], [60], [2], [62], [3], [64], [63, 65], [61, 66], [67], [68], [68]] 11 [(60, 4), (61, 1152921504606846976), (62, 4), (63, 4611686018427387904), (64, 8), (65, 18446744073709551616), (66, 46116860184273879040), (67, 76092819304051900416), (68, 147573952589676412928), (69, 295147905179352825856), (70, 295147905179352825856)] mixed (by kernel_rfl) rfl rfl) | (refine W.condA (ht := fun hb => ?_) (hf := fun hb => ?_) <;> (try simp at hb) <;> (try (exfalso; omega))))
      all_goals first | exact FinM.ret ResM.auto | (exfalso; omega)
    · have h3 := rminus_ok (digs (mag x)) (digs (mag y)) (digs_norm _).dig (digs_norm _).dig (by omega) (digs_mono my (by omega)) (by rw [val_mag, val_mag]; omega)
      rw [val_mag, val_mag] at h3
      have e0 : x + y = sgn x * (mag x - mag y) ∧ (sgn x = 1 ∨ sgn x = -1 ∨ mag x - mag y = 0) := by
        rcases c1 with h | h | h <;> rcases c2 with h' | h' | h' <;> rw [h.1, h'.1] at hc <;> rw [h.1, h.2.2, h'.2.2] <;> simp at hc ⊢ <;> omega
      have em : mag (x + y) = mag x - mag y := (num_of (by omega) e0.2 e0.1).1
      have h4 := rmade_ok (sgn x) (digs (mag x - mag y)) (digs_norm _).dig (by rw [← em]; omega) (x + y) (by rw [val_digs (by omega)]; exact e0.2) (by rw [val_digs (by omega)]; exact e0.1)
      rw [decide_eq_false hlt] at h6
      generalize x + y = z at *
      refine ACalls.of_M TYok (qs := [zB (fullZ z), cI (fullE z)]) [.cell 4 24, .tmp 5] 71 Tryz.func7 (by kernel_rfl) rfl rfl rfl fun G => ?_
      refine W.initA (hw := ?_)
      repeat' (first | ((first | apply U_ | (apply Ug_; exact rfl; exact rfl) | (apply Ugq_; exact rfl; exact rfl) | apply Lex.u | (apply Lex.g; exact rfl; exact rfl) | (apply Lex.gq; exact rfl; exact rfl)); (first | exact QX.Move TYok | exact QX.Asg TYok | exact QX.Fld TYok | exact QX.Ld TYok | exact QX.Bin TYok | exact QX.Pick TYok | exact QX.Un TYok | exact QX.Ext TYok | exact QX.Build TYok | (apply Q_call (h1); exact EvL.auto; exact rfl) | (apply Q_call (h2); exact EvL.auto; exact rfl) | (apply Q_calld (h3); exact EvD.auto) | (apply Q_calld (h4); exact EvD.auto) | (apply Q_calld (h5); exact EvD.auto) | (apply Q_call (h6); exact EvL.auto; exact rfl)); exact rfl) | refine SX.Alloc TYok (h := ?_) | refine SX.Store TYok (h := ?_) | refine SX.Box TYok (h := ?_) | apply RG.nil | apply Lex.nil | apply Then.n | apply Then.r | apply Then.x | apply InBlock.n | apply InBlock.r | apply InBlock.hit | (apply InBlock.miss; exact rfl) | apply W.seq | apply W.region | apply W.block | apply W.skip | apply W.ret | apply W.exit | (apply S_isnil TYok; exact rfl; exact rfl; exact rfl; exact Ev.auto; intro bn hnil) | (apply RG.gT; exact rfl; exact rfl; (first | assumption | decide)) | (apply RG.gF; exact rfl; exact rfl; (first | assumption | decide | (rw [ne_eq, Bool.not_eq_true]; assumption) | (rw [ne_eq, Bool.not_eq_false]; assumption)); exact rfl) | (apply W.draw2 (id := 4) [0, 1, 0, 4, 15, 0, 32, 0, 128, 480, 1023, 2047, 4095, 4095, 16383, 32767] [[2], [30], [3], [32], [31, 33], [2], [35], [3], [37], [36, 38], [34, 39], [40], [41], [41]] 14 [(30, 4), (31, 1073741824), (32, 8), (33, 4294967296), (34, 10737418240), (35, 4), (36, 34359738368), (37, 8), (38, 137438953472), (39, 343597383680), (40, 566935683072), (41, 1099511627776), (42, 2199023255552), (43, 2199023255552)] mixed (by kernel_rfl) rfl rfl) | (apply W.draw2 (id := 6) [0, 1, 0, 4, 0, 16, 60, 127, 255, 511, 511, 2047, 4095] [[3], [49], [3], [51], [2], [53], [52, 54], [50, 55], [56], [57], [57]] 11 [(49, 8), (50, 562949953421312), (51, 8), (52, 2251799813685248), (53, 4), (54, 9007199254740992), (55, 22517998136852480), (56, 37154696925806592), (57, 72057594037927936), (58, 144115188075855872), (59, 144115188075855872)] mixed (by kernel_rfl) rfl rfl) | (apply W.draw2 (id := 7) [0, 1, 0, 4, 0, 16, 60, 127, 255, 511, 511, 2047, 4095] [[2], [60], [2], [62], [3], [64], [63, 65], [61, 66], [67], [68], [68]] 11 [(60, 4), (61, 1152921504606846976), (62, 4), (63, 4611686018427387904), (64, 8), (65, 18446744073709551616), (66, 46116860184273879040), (67, 76092819304051900416), (68, 147573952589676412928), (69, 295147905179352825856), (70, 295147905179352825856)] mixed (by kernel_rfl) rfl rfl) | (refine W.condA (ht := fun hb => ?_) (hf := fun hb => ?_) <;> (try simp at hb) <;> (try (exfalso; omega))))
      all_goals first | exact FinM.ret ResM.auto | (exfalso; omega)
attribute [local irreducible] sgn mag fullZ fullE in
theorem rsubZ_ok (x y : Int) (hx : okZ x) (hy : okZ y) : ACalls Tryz.prog 9 [zB x, zB y] (.tup [zB (fullZ (x - y)), cI (fullE (x - y))]) := by
  have h2 := rright_yes hy
  have h3 := rneg_ok y hy
  have h4 := raddZ_ok x (-y) hx (okZ_neg hy)
  rw [show x + -y = x - y by omega] at h4
  generalize x - y = z at *
  refine ACalls.of_M TYok (qs := [zB (fullZ z), cI (fullE z)]) [.cell 4 24, .tmp 5] 21 Tryz.func9 (by kernel_rfl) rfl rfl rfl fun G => ?_
  refine W.initA (hw := ?_)
  repeat' (first | (refine W.purgeR [(0, [0, 1]), (1, [2, 3, 4]), (2, [4]), (3, [2, 3, 4]), (4, [4, 6, 7])] rfl (by repeat (first | exact PN.nil | apply PN.po rfl | (apply PN.pa; exact rfl; (repeat (first | (apply NR.cons; exact rfl) | exact NR.nil rfl))) | apply PN.a rfl | apply PN.s rfl | apply PN.u rfl | apply PN.m rfl | apply PN.k rfl | apply PN.i rfl | apply PN.skip)) (by repeat (first | exact PB.nil | (apply PB.one; exact rfl; (focus (first | (dsimp only; done) | (dsimp only; exact rfl) | exact rfl)); (focus (first | (dsimp only; done) | (dsimp only; exact rfl) | exact rfl)); exact rfl; (repeat (first | (apply NR.cons; exact rfl) | exact NR.nil rfl)))  | apply PB.cons rfl)) ?_) | ((first | apply U_); (first | exact QX.Move TYok | exact QX.Asg TYok | exact QX.Ld TYok | exact QX.Un TYok | exact QX.Ext TYok | exact QX.Build TYok | (apply Q_call (h2); exact EvL.auto; exact rfl) | (apply Q_calld (h3); exact EvD.auto) | (apply Q_calld (h4); exact EvD.auto)); exact rfl) | refine SX.Alloc TYok (h := ?_) | refine SX.Store TYok (h := ?_) | refine SX.Box TYok (h := ?_) | apply RG.nil | apply Lex.nil | apply Then.n | apply Then.r | apply Then.x | apply InBlock.n | apply InBlock.r | apply InBlock.hit | (apply InBlock.miss; exact rfl) | apply W.seq | apply W.region | apply W.block | apply W.skip | apply W.ret | apply W.exit | apply LexS.nil | (apply LexS.f; exact rfl; (first | (apply FreshV.alloc TYok; exact rfl; exact rfl; exact rfl; exact rfl) | (apply FreshV.lit TYok; (repeat (first | exact EvR.nil | apply EvR.cons Ev.auto)); exact rfl; exact rfl; exact rfl; exact rfl; exact rfl; exact rfl; exact rfl; exact rfl; exact rfl) | (apply FreshV.box; exact Ev.auto; exact rfl; exact rfl; exact rfl)); exact rfl; exact rfl; exact rfl) | (apply LexS.s; exact rfl; exact rfl; (apply StoreV.mk TYok; exact Ev.auto; exact Ev.auto; exact rfl; exact rfl; exact rfl; exact rfl; exact rfl)) | ((first | apply LexS.u | (apply LexS.g; exact rfl; exact rfl) | (apply LexS.gq; exact rfl; exact rfl)); (repeat (first | (apply NB.cons; exact rfl) | exact NB.nil rfl)); (first | exact QX.Move TYok | exact QX.Asg TYok | exact QX.Ld TYok | exact QX.Un TYok | exact QX.Ext TYok | exact QX.Build TYok | (apply Q_call (h2); exact EvL.auto; exact rfl) | (apply Q_calld (h3); exact EvD.auto) | (apply Q_calld (h4); exact EvD.auto)); exact rfl; exact rfl; exact rfl) | (refine W.drawS (id := 3) [0, 0, 2, 7, 15, 31, 31, 0, 191, 511] [[2], [3], [14], [13, 15], [16], [12], [12], [], [6, 17], [18]] [(8, (6, ?_)), (7, (6, ?_))] [(8, 6), (7, 6)] mixed (by kernel_rfl) rfl ?_; rotate_left 2) | (refine W.condA (ht := fun hb => ?_) (hf := fun hb => ?_) <;> (try simp at hb) <;> (try (exfalso; omega))))
  exact FinM.ret ResM.auto
end Go.Proofs.YtldgkgfkdipdeaaGreatDoor
