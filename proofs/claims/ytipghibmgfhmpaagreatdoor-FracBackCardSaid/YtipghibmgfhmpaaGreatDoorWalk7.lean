/-
  Big integers: sums, differences, quotients, comparing.
-/
import Derived.Test.YtipghibmgfhmpaaGreatDoorWalk6
import Derived.Test.YtipghibmgfhmpaaGreatDoorLfDrawF
set_option linter.unusedVariables false
set_option linter.unusedSimpArgs false
set_option maxHeartbeats 8000000
namespace Go.Proofs.YtipghibmgfhmpaaGreatDoor
open Lf Go
attribute [local irreducible] PureOp EffOp Ev RG W Then InBlock Lf.Fin nth App InitE Pick SubE SubF SubG EvL EvD EvP EvR ResL Lf.Lex SubR SubBR RA RAll EvC FinO FinM ResM FinB ResD FinS val pw digs trimL

theorem addZ_ok (x y : Int) (hx : okZ x) (hy : okZ y) : ACalls Tryz.prog 38 [zB x, zB y] (.tup [zB (fullZ (x + y)), cI (fullE (x + y))]) := by
  have h1 := right_yes hx
  have h2 := right_yes hy
  have l1 := num_len hx
  have l2 := num_len hy
  have hs := mul_sgn x y
  have c1 := sgn_cases x
  have c2 := sgn_cases y
  have mx := mag_nn x
  have my := mag_nn y
  have hx' := hx
  have hy' := hy
  unfold okZ at hx' hy'
  have hz61 : mag (x + y) < pw 61 := by
    have := sgn_cases (x + y)
    have : pw 61 = 1048576 * pw 60 := pw_succ 60
    omega
  have l5 : (digs (mag (x + y))).length ≤ 61 := (digs_len (mag_nn _)).2 hz61
  have h5 := checked_yes (x + y) (by omega)
  by_cases hc : 0 ≤ sgn x * sgn y
  · have h6 := orTwo_ok (sgn x) (sgn y)
    have h3 := add_ok (digs (mag x)) (digs (mag y)) (digs_norm _).dig (digs_norm _).dig (by omega) (by omega)
    rw [val_mag, val_mag] at h3
    have e0 : x + y = (if sgn x = 0 then sgn y else sgn x) * (mag x + mag y) ∧ ((if sgn x = 0 then sgn y else sgn x) = 1 ∨ (if sgn x = 0 then sgn y else sgn x) = -1 ∨ mag x + mag y = 0) := by
      rcases c1 with h | h | h <;> rcases c2 with h' | h' | h' <;> rw [h.1, h'.1] at hc ⊢ <;> rw [h.2.2, h'.2.2] <;> simp at hc ⊢ <;> omega
    have em : mag (x + y) = mag x + mag y := (num_of (by omega) e0.2 e0.1).1
    have h4 := signed_ok (if sgn x = 0 then sgn y else sgn x) (digs (mag x + mag y)) (digs_norm _).dig (by rw [← em]; omega) (x + y) (by rw [val_digs (by omega)]; exact e0.2) (by rw [val_digs (by omega)]; exact e0.1)
    generalize (if sgn x = 0 then sgn y else sgn x) = s at *
    generalize x + y = z at *
    refine ACalls.of_M TYok (qs := [zB (fullZ z), cI (fullE z)]) [.cell 4 24, .tmp 5] 69 Tryz.func38 (by kernel_rfl) rfl rfl rfl fun G => ?_
    refine W.initA (hw := ?_)
    repeat' (first
      | ((first | apply U_ | (apply Ug_; exact rfl; exact rfl) | (apply Ugq_; exact rfl; exact rfl) | apply Lex.u | (apply Lex.g; exact rfl; exact rfl) | (apply Lex.gq; exact rfl; exact rfl)); (first
    | exact QX.Move TYok
    | exact QX.Asg TYok
    | exact QX.Fld TYok
    | exact QX.Ld TYok
    | exact QX.Bin TYok
    | exact QX.Pick TYok
    | exact QX.Un TYok
    | exact QX.Ext TYok
    | exact QX.Build TYok
    | (apply Q_call (h1); exact EvL.auto; exact rfl)
    | (apply Q_call (h2); exact EvL.auto; exact rfl)
    | (apply Q_calld (h3); exact EvD.auto)
    | (apply Q_calld (h4); exact EvD.auto)
    | (apply Q_calld (h5); exact EvD.auto)
    | (apply Q_call (h6); exact EvL.auto; exact rfl)); exact rfl)
      | refine SX.Alloc TYok (h := ?_)
      | refine SX.Store TYok (h := ?_)
      | refine SX.Lit TYok (h := ?_)
      | refine SX.Box TYok (h := ?_)
      | apply RG.nil
      | apply Lex.nil
      | apply Then.n
      | apply Then.r
      | apply Then.x
      | apply InBlock.n
      | apply InBlock.r
      | apply InBlock.hit
      | (apply InBlock.miss; exact rfl)
      | apply W.seq
      | apply W.region
      | apply W.block
      | apply W.skip
      | apply W.ret
      | apply W.exit
      | (apply RG.gT; exact rfl; exact rfl; (first | assumption | decide))
      | (apply RG.gF; exact rfl; exact rfl; (first | assumption | decide | (rw [ne_eq, Bool.not_eq_true]; assumption) | (rw [ne_eq, Bool.not_eq_false]; assumption)); exact rfl)
      | (apply W.draw2 (id := 6) [0, 1, 0, 4, 0, 16, 60, 127, 255, 511, 511, 2047, 4095] [[3], [47], [3], [49], [2], [51], [50, 52], [48, 53], [54], [55], [55]] 11 [(47, 8), (48, 140737488355328), (49, 8), (50, 562949953421312), (51, 4), (52, 2251799813685248), (53, 5629499534213120), (54, 9288674231451648), (55, 18014398509481984), (56, 36028797018963968), (57, 36028797018963968)] mixed (by kernel_rfl) rfl rfl)
      | (apply W.draw2 (id := 7) [0, 1, 0, 4, 0, 16, 60, 127, 255, 511, 511, 2047, 4095] [[2], [58], [2], [60], [3], [62], [61, 63], [59, 64], [65], [66], [66]] 11 [(58, 4), (59, 288230376151711744), (60, 4), (61, 1152921504606846976), (62, 8), (63, 4611686018427387904), (64, 11529215046068469760), (65, 19023204826012975104), (66, 36893488147419103232), (67, 73786976294838206464), (68, 73786976294838206464)] mixed (by kernel_rfl) rfl rfl)
      | (refine W.drawF (id := 4) [0, 1, 0, 4, 15, 31, 0, 64, 0, 256, 1023, 2047, 4095, 8191, 8191, 32767, 65535] [[2], [25], [3], [27], [26, 28], [29], [2], [31], [3], [33], [32, 34], [30, 35], [36], [37], [37]] 15 [(25, 4), (26, 33554432), (27, 8), (28, 134217728), (29, 335544320), (30, 536870912), (31, 4), (32, 2147483648), (33, 8), (34, 8589934592), (35, 21474836480), (36, 35433480192), (37, 68719476736), (38, 137438953472), (39, 137438953472)] [(4, (29, ⟨3, 1, [[.int .i64 (sgn x)], [.int .i64 (sgn y)]]⟩))] mixed (by kernel_rfl) rfl rfl rfl rfl rfl rfl ?_)
      | apply LexE.nil
      | (apply LexE.e (k := 0); exact rfl; apply FreshAt.lit TYok; (repeat (first | exact EvR.nil | apply EvR.cons Ev.auto)); exact rfl; exact rfl; exact rfl; exact rfl; exact rfl; exact rfl; exact rfl; exact rfl; exact rfl; exact rfl; exact rfl)
      | (apply LexE.ge (k := 0); exact rfl; exact rfl; (first | assumption | decide | exact rfl); exact rfl; apply FreshAt.lit TYok; (repeat (first | exact EvR.nil | apply EvR.cons Ev.auto)); exact rfl; exact rfl; exact rfl; exact rfl; exact rfl; exact rfl; exact rfl; exact rfl; exact rfl; exact rfl; exact rfl)
      | ((first | apply LexE.u | (apply LexE.g; exact rfl; exact rfl) | (apply LexE.gq; exact rfl; exact rfl)); (first | (first | exact QX.Move TYok | exact QX.Asg TYok | exact QX.Fld TYok | exact QX.Ld TYok | exact QX.Bin TYok | exact QX.Pick TYok | exact QX.Un TYok | exact QX.Ext TYok | exact QX.Build TYok | (apply Q_call (h1); exact EvL.auto; exact rfl) | (apply Q_call (h2); exact EvL.auto; exact rfl) | (apply Q_calld (h3); exact EvD.auto) | (apply Q_calld (h4); exact EvD.auto) | (apply Q_calld (h5); exact EvD.auto) | (apply Q_call (h6); exact EvL.auto; exact rfl)) | (apply PureOp.off; intro hp; simp_all; done)); exact rfl; exact rfl; exact rfl)
      | (refine W.condA (ht := fun hb => ?_) (hf := fun hb => ?_) <;> (try simp at hb) <;> (try (exfalso; omega))))
    exact FinM.ret ResM.auto
  · have h6 := compare_ok (digs (mag x)) (digs (mag y)) (digs_norm _) (digs_norm _) (by omega) (by omega)
    rw [val_mag, val_mag] at h6
    by_cases hlt : mag x < mag y
    · have h3 := sub_ok (digs (mag y)) (digs (mag x)) (digs_norm _).dig (digs_norm _).dig (by omega) (digs_mono mx (by omega)) (by rw [val_mag, val_mag]; omega)
      rw [val_mag, val_mag] at h3
      have e0 : x + y = sgn y * (mag y - mag x) ∧ (sgn y = 1 ∨ sgn y = -1 ∨ mag y - mag x = 0) := by
        rcases c1 with h | h | h <;> rcases c2 with h' | h' | h' <;> rw [h.1, h'.1] at hc <;> rw [h'.1, h.2.2, h'.2.2] <;> simp at hc ⊢ <;> omega
      have em : mag (x + y) = mag y - mag x := (num_of (by omega) e0.2 e0.1).1
      have h4 := signed_ok (sgn y) (digs (mag y - mag x)) (digs_norm _).dig (by rw [← em]; omega) (x + y) (by rw [val_digs (by omega)]; exact e0.2) (by rw [val_digs (by omega)]; exact e0.1)
      rw [show cmpI (mag x) (mag y) = -1 from if_pos hlt] at h6
      generalize x + y = z at *
      refine ACalls.of_M TYok (qs := [zB (fullZ z), cI (fullE z)]) [.cell 4 24, .tmp 5] 69 Tryz.func38 (by kernel_rfl) rfl rfl rfl fun G => ?_
      refine W.initA (hw := ?_)
      repeat' (first
        | ((first | apply U_ | (apply Ug_; exact rfl; exact rfl) | (apply Ugq_; exact rfl; exact rfl) | apply Lex.u | (apply Lex.g; exact rfl; exact rfl) | (apply Lex.gq; exact rfl; exact rfl)); (first
    | exact QX.Move TYok
    | exact QX.Asg TYok
    | exact QX.Fld TYok
    | exact QX.Ld TYok
    | exact QX.Bin TYok
    | exact QX.Pick TYok
    | exact QX.Un TYok
    | exact QX.Ext TYok
    | exact QX.Build TYok
    | (apply Q_call (h1); exact EvL.auto; exact rfl)
    | (apply Q_call (h2); exact EvL.auto; exact rfl)
    | (apply Q_calld (h3); exact EvD.auto)
    | (apply Q_calld (h4); exact EvD.auto)
    | (apply Q_calld (h5); exact EvD.auto)
    | (apply Q_call (h6); exact EvL.auto; exact rfl)); exact rfl)
        | refine SX.Alloc TYok (h := ?_)
        | refine SX.Store TYok (h := ?_)
        | refine SX.Lit TYok (h := ?_)
        | refine SX.Box TYok (h := ?_)
        | apply RG.nil
        | apply Lex.nil
        | apply Then.n
        | apply Then.r
        | apply Then.x
        | apply InBlock.n
        | apply InBlock.r
        | apply InBlock.hit
        | (apply InBlock.miss; exact rfl)
        | apply W.seq
        | apply W.region
        | apply W.block
        | apply W.skip
        | apply W.ret
        | apply W.exit
        | (apply RG.gT; exact rfl; exact rfl; (first | assumption | decide))
        | (apply RG.gF; exact rfl; exact rfl; (first | assumption | decide | (rw [ne_eq, Bool.not_eq_true]; assumption) | (rw [ne_eq, Bool.not_eq_false]; assumption)); exact rfl)
        | (apply W.draw2 (id := 6) [0, 1, 0, 4, 0, 16, 60, 127, 255, 511, 511, 2047, 4095] [[3], [47], [3], [49], [2], [51], [50, 52], [48, 53], [54], [55], [55]] 11 [(47, 8), (48, 140737488355328), (49, 8), (50, 562949953421312), (51, 4), (52, 2251799813685248), (53, 5629499534213120), (54, 9288674231451648), (55, 18014398509481984), (56, 36028797018963968), (57, 36028797018963968)] mixed (by kernel_rfl) rfl rfl)
        | (apply W.draw2 (id := 7) [0, 1, 0, 4, 0, 16, 60, 127, 255, 511, 511, 2047, 4095] [[2], [58], [2], [60], [3], [62], [61, 63], [59, 64], [65], [66], [66]] 11 [(58, 4), (59, 288230376151711744), (60, 4), (61, 1152921504606846976), (62, 8), (63, 4611686018427387904), (64, 11529215046068469760), (65, 19023204826012975104), (66, 36893488147419103232), (67, 73786976294838206464), (68, 73786976294838206464)] mixed (by kernel_rfl) rfl rfl)
        | (refine W.drawA (id := 4) (L := [false, false, false, false, false, false, false, false, false, false, false, false, false, false, false, false, false]) mixed rfl ?_)
        | exact RAll.nil
        | (refine RAll.cons rfl ?_ ?_)
        | (refine RA.step (L := [false, false, false, false, false, false, false, false, false, false, false, false, false, false, false, false, false]) (i := 0) (is := [2, 6, 8]) (by kernel_rfl) ?_)
        | (refine RA.step (L := [false, false, false, false, false, false, false, false, true, false, false, false, false, false, false, false, false]) (i := 0) (is := [2, 6, 9]) (by kernel_rfl) ?_)
        | (refine RA.step (L := [false, false, false, false, false, false, false, false, true, true, false, false, false, false, false, false, false]) (i := 0) (is := [2, 6]) (by kernel_rfl) ?_)
        | (refine RA.step (L := [false, false, false, false, false, false, true, false, true, true, false, false, false, false, false, false, false]) (i := 0) (is := [2, 7]) (by kernel_rfl) ?_)
        | (refine RA.step (L := [false, false, false, false, false, false, true, true, true, true, false, false, false, false, false, false, false]) (i := 0) (is := [2]) (by kernel_rfl) ?_)
        | (refine RA.step (L := [false, false, true, false, false, false, true, true, true, true, false, false, false, false, false, false, false]) (i := 0) (is := [3]) (by kernel_rfl) ?_)
        | (refine RA.step (L := [false, false, true, true, false, false, true, true, true, true, false, false, false, false, false, false, false]) (i := 0) (is := []) (by kernel_rfl) ?_)
        | (refine RA.step (L := [true, false, true, true, false, false, true, true, true, true, false, false, false, false, false, false, false]) (i := 1) (is := []) (by kernel_rfl) ?_)
        | (refine RA.step (L := [true, true, true, true, false, false, true, true, true, true, false, false, false, false, false, false, false]) (i := 4) (is := []) (by kernel_rfl) ?_)
        | (refine RA.step (L := [true, true, true, true, true, false, true, true, true, true, false, false, false, false, false, false, false]) (i := 5) (is := []) (by kernel_rfl) ?_)
        | (refine RA.step (L := [true, true, true, true, true, true, true, true, true, true, false, false, false, false, false, false, false]) (i := 10) (is := []) (by kernel_rfl) ?_)
        | (refine RA.step (L := [true, true, true, true, true, true, true, true, true, true, true, false, false, false, false, false, false]) (i := 11) (is := []) (by kernel_rfl) ?_)
        | (refine RA.step (L := [true, true, true, true, true, true, true, true, true, true, true, true, false, false, false, false, false]) (i := 12) (is := []) (by kernel_rfl) ?_)
        | (refine RA.step (L := [true, true, true, true, true, true, true, true, true, true, true, true, true, false, false, false, false]) (i := 13) (is := [14]) (by kernel_rfl) ?_)
        | (refine RA.step (L := [true, true, true, true, true, true, true, true, true, true, true, true, true, false, true, false, false]) (i := 13) (is := []) (by kernel_rfl) ?_)
        | (refine RA.step (L := [true, true, true, true, true, true, true, true, true, true, true, true, true, true, true, false, false]) (i := 15) (is := []) (by kernel_rfl) ?_)
        | (refine RA.step (L := [true, true, true, true, true, true, true, true, true, true, true, true, true, true, true, true, false]) (i := 16) (is := []) (by kernel_rfl) ?_)
        | (refine RA.done (L := [true, true, true, true, true, true, true, true, true, true, true, true, true, true, true, true, true]) (by kernel_rfl) ?_)
        | (refine RA.step (L := [true, true, true, true, true, true, true, true, true, true, true, true, true, true, false, false, false]) (i := 14) (is := []) (by kernel_rfl) ?_)
        | (refine RA.step (L := [true, false, true, false, false, false, true, true, true, true, false, false, false, false, false, false, false]) (i := 1) (is := [3]) (by kernel_rfl) ?_)
        | (refine RA.step (L := [true, true, true, false, false, false, true, true, true, true, false, false, false, false, false, false, false]) (i := 3) (is := []) (by kernel_rfl) ?_)
        | (refine RA.step (L := [true, false, false, false, false, false, true, true, true, true, false, false, false, false, false, false, false]) (i := 1) (is := [2]) (by kernel_rfl) ?_)
        | (refine RA.step (L := [true, true, false, false, false, false, true, true, true, true, false, false, false, false, false, false, false]) (i := 2) (is := []) (by kernel_rfl) ?_)
        | (refine RA.step (L := [false, false, true, false, false, false, true, false, true, true, false, false, false, false, false, false, false]) (i := 0) (is := [3, 7]) (by kernel_rfl) ?_)
        | (refine RA.step (L := [false, false, true, true, false, false, true, false, true, true, false, false, false, false, false, false, false]) (i := 0) (is := [7]) (by kernel_rfl) ?_)
        | (refine RA.step (L := [true, false, true, true, false, false, true, false, true, true, false, false, false, false, false, false, false]) (i := 1) (is := [7]) (by kernel_rfl) ?_)
        | (refine RA.step (L := [true, true, true, true, false, false, true, false, true, true, false, false, false, false, false, false, false]) (i := 4) (is := [7]) (by kernel_rfl) ?_)
        | (refine RA.step (L := [true, true, true, true, true, false, true, false, true, true, false, false, false, false, false, false, false]) (i := 5) (is := [7]) (by kernel_rfl) ?_)
        | (refine RA.step (L := [true, true, true, true, true, true, true, false, true, true, false, false, false, false, false, false, false]) (i := 7) (is := []) (by kernel_rfl) ?_)
        | (refine RA.step (L := [true, false, true, false, false, false, true, false, true, true, false, false, false, false, false, false, false]) (i := 1) (is := [3, 7]) (by kernel_rfl) ?_)
        | (refine RA.step (L := [true, true, true, false, false, false, true, false, true, true, false, false, false, false, false, false, false]) (i := 3) (is := [7]) (by kernel_rfl) ?_)
        | (refine RA.step (L := [true, false, false, false, false, false, true, false, true, true, false, false, false, false, false, false, false]) (i := 1) (is := [2, 7]) (by kernel_rfl) ?_)
        | (refine RA.step (L := [true, true, false, false, false, false, true, false, true, true, false, false, false, false, false, false, false]) (i := 2) (is := [7]) (by kernel_rfl) ?_)
        | (refine RA.step (L := [false, false, true, false, false, false, false, false, true, true, false, false, false, false, false, false, false]) (i := 0) (is := [3, 6]) (by kernel_rfl) ?_)
        | (refine RA.step (L := [false, false, true, true, false, false, false, false, true, true, false, false, false, false, false, false, false]) (i := 0) (is := [6]) (by kernel_rfl) ?_)
        | (refine RA.step (L := [true, false, true, true, false, false, false, false, true, true, false, false, false, false, false, false, false]) (i := 1) (is := [6]) (by kernel_rfl) ?_)
        | (refine RA.step (L := [true, true, true, true, false, false, false, false, true, true, false, false, false, false, false, false, false]) (i := 4) (is := [6]) (by kernel_rfl) ?_)
        | (refine RA.step (L := [true, true, true, true, true, false, false, false, true, true, false, false, false, false, false, false, false]) (i := 5) (is := [6]) (by kernel_rfl) ?_)
        | (refine RA.step (L := [true, true, true, true, true, true, false, false, true, true, false, false, false, false, false, false, false]) (i := 6) (is := []) (by kernel_rfl) ?_)
        | (refine RA.step (L := [true, false, true, false, false, false, false, false, true, true, false, false, false, false, false, false, false]) (i := 1) (is := [3, 6]) (by kernel_rfl) ?_)
        | (refine RA.step (L := [true, true, true, false, false, false, false, false, true, true, false, false, false, false, false, false, false]) (i := 3) (is := [6]) (by kernel_rfl) ?_)
        | (refine RA.step (L := [true, false, false, false, false, false, false, false, true, true, false, false, false, false, false, false, false]) (i := 1) (is := [2, 6]) (by kernel_rfl) ?_)
        | (refine RA.step (L := [true, true, false, false, false, false, false, false, true, true, false, false, false, false, false, false, false]) (i := 2) (is := [6]) (by kernel_rfl) ?_)
        | (refine RA.step (L := [false, false, false, false, false, false, true, false, true, false, false, false, false, false, false, false, false]) (i := 0) (is := [2, 7, 9]) (by kernel_rfl) ?_)
        | (refine RA.step (L := [false, false, false, false, false, false, true, true, true, false, false, false, false, false, false, false, false]) (i := 0) (is := [2, 9]) (by kernel_rfl) ?_)
        | (refine RA.step (L := [false, false, true, false, false, false, true, true, true, false, false, false, false, false, false, false, false]) (i := 0) (is := [3, 9]) (by kernel_rfl) ?_)
        | (refine RA.step (L := [false, false, true, true, false, false, true, true, true, false, false, false, false, false, false, false, false]) (i := 0) (is := [9]) (by kernel_rfl) ?_)
        | (refine RA.step (L := [true, false, true, true, false, false, true, true, true, false, false, false, false, false, false, false, false]) (i := 1) (is := [9]) (by kernel_rfl) ?_)
        | (refine RA.step (L := [true, true, true, true, false, false, true, true, true, false, false, false, false, false, false, false, false]) (i := 4) (is := [9]) (by kernel_rfl) ?_)
        | (refine RA.step (L := [true, true, true, true, true, false, true, true, true, false, false, false, false, false, false, false, false]) (i := 5) (is := [9]) (by kernel_rfl) ?_)
        | (refine RA.step (L := [true, true, true, true, true, true, true, true, true, false, false, false, false, false, false, false, false]) (i := 9) (is := []) (by kernel_rfl) ?_)
        | (refine RA.step (L := [true, false, true, false, false, false, true, true, true, false, false, false, false, false, false, false, false]) (i := 1) (is := [3, 9]) (by kernel_rfl) ?_)
        | (refine RA.step (L := [true, true, true, false, false, false, true, true, true, false, false, false, false, false, false, false, false]) (i := 3) (is := [9]) (by kernel_rfl) ?_)
        | (refine RA.step (L := [true, false, false, false, false, false, true, true, true, false, false, false, false, false, false, false, false]) (i := 1) (is := [2, 9]) (by kernel_rfl) ?_)
        | (refine RA.step (L := [true, true, false, false, false, false, true, true, true, false, false, false, false, false, false, false, false]) (i := 2) (is := [9]) (by kernel_rfl) ?_)
        | (refine RA.step (L := [false, false, true, false, false, false, true, false, true, false, false, false, false, false, false, false, false]) (i := 0) (is := [3, 7, 9]) (by kernel_rfl) ?_)
        | (refine RA.step (L := [false, false, true, true, false, false, true, false, true, false, false, false, false, false, false, false, false]) (i := 0) (is := [7, 9]) (by kernel_rfl) ?_)
        | (refine RA.step (L := [true, false, true, true, false, false, true, false, true, false, false, false, false, false, false, false, false]) (i := 1) (is := [7, 9]) (by kernel_rfl) ?_)
        | (refine RA.step (L := [true, true, true, true, false, false, true, false, true, false, false, false, false, false, false, false, false]) (i := 4) (is := [7, 9]) (by kernel_rfl) ?_)
        | (refine RA.step (L := [true, true, true, true, true, false, true, false, true, false, false, false, false, false, false, false, false]) (i := 5) (is := [7, 9]) (by kernel_rfl) ?_)
        | (refine RA.step (L := [true, true, true, true, true, true, true, false, true, false, false, false, false, false, false, false, false]) (i := 7) (is := [9]) (by kernel_rfl) ?_)
        | (refine RA.step (L := [true, false, true, false, false, false, true, false, true, false, false, false, false, false, false, false, false]) (i := 1) (is := [3, 7, 9]) (by kernel_rfl) ?_)
        | (refine RA.step (L := [true, true, true, false, false, false, true, false, true, false, false, false, false, false, false, false, false]) (i := 3) (is := [7, 9]) (by kernel_rfl) ?_)
        | (refine RA.step (L := [true, false, false, false, false, false, true, false, true, false, false, false, false, false, false, false, false]) (i := 1) (is := [2, 7, 9]) (by kernel_rfl) ?_)
        | (refine RA.step (L := [true, true, false, false, false, false, true, false, true, false, false, false, false, false, false, false, false]) (i := 2) (is := [7, 9]) (by kernel_rfl) ?_)
        | (refine RA.step (L := [false, false, true, false, false, false, false, false, true, false, false, false, false, false, false, false, false]) (i := 0) (is := [3, 6, 9]) (by kernel_rfl) ?_)
        | (refine RA.step (L := [false, false, true, true, false, false, false, false, true, false, false, false, false, false, false, false, false]) (i := 0) (is := [6, 9]) (by kernel_rfl) ?_)
        | (refine RA.step (L := [true, false, true, true, false, false, false, false, true, false, false, false, false, false, false, false, false]) (i := 1) (is := [6, 9]) (by kernel_rfl) ?_)
        | (refine RA.step (L := [true, true, true, true, false, false, false, false, true, false, false, false, false, false, false, false, false]) (i := 4) (is := [6, 9]) (by kernel_rfl) ?_)
        | (refine RA.step (L := [true, true, true, true, true, false, false, false, true, false, false, false, false, false, false, false, false]) (i := 5) (is := [6, 9]) (by kernel_rfl) ?_)
        | (refine RA.step (L := [true, true, true, true, true, true, false, false, true, false, false, false, false, false, false, false, false]) (i := 6) (is := [9]) (by kernel_rfl) ?_)
        | (refine RA.step (L := [true, false, true, false, false, false, false, false, true, false, false, false, false, false, false, false, false]) (i := 1) (is := [3, 6, 9]) (by kernel_rfl) ?_)
        | (refine RA.step (L := [true, true, true, false, false, false, false, false, true, false, false, false, false, false, false, false, false]) (i := 3) (is := [6, 9]) (by kernel_rfl) ?_)
        | (refine RA.step (L := [true, false, false, false, false, false, false, false, true, false, false, false, false, false, false, false, false]) (i := 1) (is := [2, 6, 9]) (by kernel_rfl) ?_)
        | (refine RA.step (L := [true, true, false, false, false, false, false, false, true, false, false, false, false, false, false, false, false]) (i := 2) (is := [6, 9]) (by kernel_rfl) ?_)
        | (refine RA.step (L := [false, false, false, false, false, false, true, false, false, false, false, false, false, false, false, false, false]) (i := 0) (is := [2, 7, 8]) (by kernel_rfl) ?_)
        | (refine RA.step (L := [false, false, false, false, false, false, true, true, false, false, false, false, false, false, false, false, false]) (i := 0) (is := [2, 8]) (by kernel_rfl) ?_)
        | (refine RA.step (L := [false, false, true, false, false, false, true, true, false, false, false, false, false, false, false, false, false]) (i := 0) (is := [3, 8]) (by kernel_rfl) ?_)
        | (refine RA.step (L := [false, false, true, true, false, false, true, true, false, false, false, false, false, false, false, false, false]) (i := 0) (is := [8]) (by kernel_rfl) ?_)
        | (refine RA.step (L := [true, false, true, true, false, false, true, true, false, false, false, false, false, false, false, false, false]) (i := 1) (is := [8]) (by kernel_rfl) ?_)
        | (refine RA.step (L := [true, true, true, true, false, false, true, true, false, false, false, false, false, false, false, false, false]) (i := 4) (is := [8]) (by kernel_rfl) ?_)
        | (refine RA.step (L := [true, true, true, true, true, false, true, true, false, false, false, false, false, false, false, false, false]) (i := 5) (is := [8]) (by kernel_rfl) ?_)
        | (refine RA.step (L := [true, true, true, true, true, true, true, true, false, false, false, false, false, false, false, false, false]) (i := 8) (is := []) (by kernel_rfl) ?_)
        | (refine RA.step (L := [true, false, true, false, false, false, true, true, false, false, false, false, false, false, false, false, false]) (i := 1) (is := [3, 8]) (by kernel_rfl) ?_)
        | (refine RA.step (L := [true, true, true, false, false, false, true, true, false, false, false, false, false, false, false, false, false]) (i := 3) (is := [8]) (by kernel_rfl) ?_)
        | (refine RA.step (L := [true, false, false, false, false, false, true, true, false, false, false, false, false, false, false, false, false]) (i := 1) (is := [2, 8]) (by kernel_rfl) ?_)
        | (refine RA.step (L := [true, true, false, false, false, false, true, true, false, false, false, false, false, false, false, false, false]) (i := 2) (is := [8]) (by kernel_rfl) ?_)
        | (refine RA.step (L := [false, false, true, false, false, false, true, false, false, false, false, false, false, false, false, false, false]) (i := 0) (is := [3, 7, 8]) (by kernel_rfl) ?_)
        | (refine RA.step (L := [false, false, true, true, false, false, true, false, false, false, false, false, false, false, false, false, false]) (i := 0) (is := [7, 8]) (by kernel_rfl) ?_)
        | (refine RA.step (L := [true, false, true, true, false, false, true, false, false, false, false, false, false, false, false, false, false]) (i := 1) (is := [7, 8]) (by kernel_rfl) ?_)
        | (refine RA.step (L := [true, true, true, true, false, false, true, false, false, false, false, false, false, false, false, false, false]) (i := 4) (is := [7, 8]) (by kernel_rfl) ?_)
        | (refine RA.step (L := [true, true, true, true, true, false, true, false, false, false, false, false, false, false, false, false, false]) (i := 5) (is := [7, 8]) (by kernel_rfl) ?_)
        | (refine RA.step (L := [true, true, true, true, true, true, true, false, false, false, false, false, false, false, false, false, false]) (i := 7) (is := [8]) (by kernel_rfl) ?_)
        | (refine RA.step (L := [true, false, true, false, false, false, true, false, false, false, false, false, false, false, false, false, false]) (i := 1) (is := [3, 7, 8]) (by kernel_rfl) ?_)
        | (refine RA.step (L := [true, true, true, false, false, false, true, false, false, false, false, false, false, false, false, false, false]) (i := 3) (is := [7, 8]) (by kernel_rfl) ?_)
        | (refine RA.step (L := [true, false, false, false, false, false, true, false, false, false, false, false, false, false, false, false, false]) (i := 1) (is := [2, 7, 8]) (by kernel_rfl) ?_)
        | (refine RA.step (L := [true, true, false, false, false, false, true, false, false, false, false, false, false, false, false, false, false]) (i := 2) (is := [7, 8]) (by kernel_rfl) ?_)
        | (refine RA.step (L := [false, false, true, false, false, false, false, false, false, false, false, false, false, false, false, false, false]) (i := 0) (is := [3, 6, 8]) (by kernel_rfl) ?_)
        | (refine RA.step (L := [false, false, true, true, false, false, false, false, false, false, false, false, false, false, false, false, false]) (i := 0) (is := [6, 8]) (by kernel_rfl) ?_)
        | (refine RA.step (L := [true, false, true, true, false, false, false, false, false, false, false, false, false, false, false, false, false]) (i := 1) (is := [6, 8]) (by kernel_rfl) ?_)
        | (refine RA.step (L := [true, true, true, true, false, false, false, false, false, false, false, false, false, false, false, false, false]) (i := 4) (is := [6, 8]) (by kernel_rfl) ?_)
        | (refine RA.step (L := [true, true, true, true, true, false, false, false, false, false, false, false, false, false, false, false, false]) (i := 5) (is := [6, 8]) (by kernel_rfl) ?_)
        | (refine RA.step (L := [true, true, true, true, true, true, false, false, false, false, false, false, false, false, false, false, false]) (i := 6) (is := [8]) (by kernel_rfl) ?_)
        | (refine RA.step (L := [true, false, true, false, false, false, false, false, false, false, false, false, false, false, false, false, false]) (i := 1) (is := [3, 6, 8]) (by kernel_rfl) ?_)
        | (refine RA.step (L := [true, true, true, false, false, false, false, false, false, false, false, false, false, false, false, false, false]) (i := 3) (is := [6, 8]) (by kernel_rfl) ?_)
        | (refine RA.step (L := [true, false, false, false, false, false, false, false, false, false, false, false, false, false, false, false, false]) (i := 1) (is := [2, 6, 8]) (by kernel_rfl) ?_)
        | (refine RA.step (L := [true, true, false, false, false, false, false, false, false, false, false, false, false, false, false, false, false]) (i := 2) (is := [6, 8]) (by kernel_rfl) ?_)
        | (refine W.condA (ht := fun hb => ?_) (hf := fun hb => ?_) <;> (try simp at hb) <;> (try (exfalso; omega))))
      exact FinM.ret ResM.auto
    · have h3 := sub_ok (digs (mag x)) (digs (mag y)) (digs_norm _).dig (digs_norm _).dig (by omega) (digs_mono my (by omega)) (by rw [val_mag, val_mag]; omega)
      rw [val_mag, val_mag] at h3
      have e0 : x + y = sgn x * (mag x - mag y) ∧ (sgn x = 1 ∨ sgn x = -1 ∨ mag x - mag y = 0) := by
        rcases c1 with h | h | h <;> rcases c2 with h' | h' | h' <;> rw [h.1, h'.1] at hc <;> rw [h.1, h.2.2, h'.2.2] <;> simp at hc ⊢ <;> omega
      have em : mag (x + y) = mag x - mag y := (num_of (by omega) e0.2 e0.1).1
      have h4 := signed_ok (sgn x) (digs (mag x - mag y)) (digs_norm _).dig (by rw [← em]; omega) (x + y) (by rw [val_digs (by omega)]; exact e0.2) (by rw [val_digs (by omega)]; exact e0.1)
      have hcm := cmp_ge (show mag y ≤ mag x by omega)
      generalize cmpI (mag x) (mag y) = cm at *
      generalize x + y = z at *
      refine ACalls.of_M TYok (qs := [zB (fullZ z), cI (fullE z)]) [.cell 4 24, .tmp 5] 69 Tryz.func38 (by kernel_rfl) rfl rfl rfl fun G => ?_
      refine W.initA (hw := ?_)
      repeat' (first
        | ((first | apply U_ | (apply Ug_; exact rfl; exact rfl) | (apply Ugq_; exact rfl; exact rfl) | apply Lex.u | (apply Lex.g; exact rfl; exact rfl) | (apply Lex.gq; exact rfl; exact rfl)); (first
    | exact QX.Move TYok
    | exact QX.Asg TYok
    | exact QX.Fld TYok
    | exact QX.Ld TYok
    | exact QX.Bin TYok
    | exact QX.Pick TYok
    | exact QX.Un TYok
    | exact QX.Ext TYok
    | exact QX.Build TYok
    | (apply Q_call (h1); exact EvL.auto; exact rfl)
    | (apply Q_call (h2); exact EvL.auto; exact rfl)
    | (apply Q_calld (h3); exact EvD.auto)
    | (apply Q_calld (h4); exact EvD.auto)
    | (apply Q_calld (h5); exact EvD.auto)
    | (apply Q_call (h6); exact EvL.auto; exact rfl)); exact rfl)
        | refine SX.Alloc TYok (h := ?_)
        | refine SX.Store TYok (h := ?_)
        | refine SX.Lit TYok (h := ?_)
        | refine SX.Box TYok (h := ?_)
        | apply RG.nil
        | apply Lex.nil
        | apply Then.n
        | apply Then.r
        | apply Then.x
        | apply InBlock.n
        | apply InBlock.r
        | apply InBlock.hit
        | (apply InBlock.miss; exact rfl)
        | apply W.seq
        | apply W.region
        | apply W.block
        | apply W.skip
        | apply W.ret
        | apply W.exit
        | (apply RG.gT; exact rfl; exact rfl; (first | assumption | decide))
        | (apply RG.gF; exact rfl; exact rfl; (first | assumption | decide | (rw [ne_eq, Bool.not_eq_true]; assumption) | (rw [ne_eq, Bool.not_eq_false]; assumption)); exact rfl)
        | (apply W.draw2 (id := 6) [0, 1, 0, 4, 0, 16, 60, 127, 255, 511, 511, 2047, 4095] [[3], [47], [3], [49], [2], [51], [50, 52], [48, 53], [54], [55], [55]] 11 [(47, 8), (48, 140737488355328), (49, 8), (50, 562949953421312), (51, 4), (52, 2251799813685248), (53, 5629499534213120), (54, 9288674231451648), (55, 18014398509481984), (56, 36028797018963968), (57, 36028797018963968)] mixed (by kernel_rfl) rfl rfl)
        | (apply W.draw2 (id := 7) [0, 1, 0, 4, 0, 16, 60, 127, 255, 511, 511, 2047, 4095] [[2], [58], [2], [60], [3], [62], [61, 63], [59, 64], [65], [66], [66]] 11 [(58, 4), (59, 288230376151711744), (60, 4), (61, 1152921504606846976), (62, 8), (63, 4611686018427387904), (64, 11529215046068469760), (65, 19023204826012975104), (66, 36893488147419103232), (67, 73786976294838206464), (68, 73786976294838206464)] mixed (by kernel_rfl) rfl rfl)
        | (refine W.drawA (id := 4) (L := [false, false, false, false, false, false, false, false, false, false, false, false, false, false, false, false, false]) mixed rfl ?_)
        | exact RAll.nil
        | (refine RAll.cons rfl ?_ ?_)
        | (refine RA.step (L := [false, false, false, false, false, false, false, false, false, false, false, false, false, false, false, false, false]) (i := 0) (is := [2, 6, 8]) (by kernel_rfl) ?_)
        | (refine RA.step (L := [false, false, false, false, false, false, false, false, true, false, false, false, false, false, false, false, false]) (i := 0) (is := [2, 6, 9]) (by kernel_rfl) ?_)
        | (refine RA.step (L := [false, false, false, false, false, false, false, false, true, true, false, false, false, false, false, false, false]) (i := 0) (is := [2, 6]) (by kernel_rfl) ?_)
        | (refine RA.step (L := [false, false, false, false, false, false, true, false, true, true, false, false, false, false, false, false, false]) (i := 0) (is := [2, 7]) (by kernel_rfl) ?_)
        | (refine RA.step (L := [false, false, false, false, false, false, true, true, true, true, false, false, false, false, false, false, false]) (i := 0) (is := [2]) (by kernel_rfl) ?_)
        | (refine RA.step (L := [false, false, true, false, false, false, true, true, true, true, false, false, false, false, false, false, false]) (i := 0) (is := [3]) (by kernel_rfl) ?_)
        | (refine RA.step (L := [false, false, true, true, false, false, true, true, true, true, false, false, false, false, false, false, false]) (i := 0) (is := []) (by kernel_rfl) ?_)
        | (refine RA.step (L := [true, false, true, true, false, false, true, true, true, true, false, false, false, false, false, false, false]) (i := 1) (is := []) (by kernel_rfl) ?_)
        | (refine RA.step (L := [true, true, true, true, false, false, true, true, true, true, false, false, false, false, false, false, false]) (i := 4) (is := []) (by kernel_rfl) ?_)
        | (refine RA.step (L := [true, true, true, true, true, false, true, true, true, true, false, false, false, false, false, false, false]) (i := 5) (is := []) (by kernel_rfl) ?_)
        | (refine RA.step (L := [true, true, true, true, true, true, true, true, true, true, false, false, false, false, false, false, false]) (i := 10) (is := []) (by kernel_rfl) ?_)
        | (refine RA.step (L := [true, true, true, true, true, true, true, true, true, true, true, false, false, false, false, false, false]) (i := 11) (is := []) (by kernel_rfl) ?_)
        | (refine RA.step (L := [true, true, true, true, true, true, true, true, true, true, true, true, false, false, false, false, false]) (i := 12) (is := []) (by kernel_rfl) ?_)
        | (refine RA.step (L := [true, true, true, true, true, true, true, true, true, true, true, true, true, false, false, false, false]) (i := 13) (is := [14]) (by kernel_rfl) ?_)
        | (refine RA.step (L := [true, true, true, true, true, true, true, true, true, true, true, true, true, false, true, false, false]) (i := 13) (is := []) (by kernel_rfl) ?_)
        | (refine RA.step (L := [true, true, true, true, true, true, true, true, true, true, true, true, true, true, true, false, false]) (i := 15) (is := []) (by kernel_rfl) ?_)
        | (refine RA.step (L := [true, true, true, true, true, true, true, true, true, true, true, true, true, true, true, true, false]) (i := 16) (is := []) (by kernel_rfl) ?_)
        | (refine RA.done (L := [true, true, true, true, true, true, true, true, true, true, true, true, true, true, true, true, true]) (by kernel_rfl) ?_)
        | (refine RA.step (L := [true, true, true, true, true, true, true, true, true, true, true, true, true, true, false, false, false]) (i := 14) (is := []) (by kernel_rfl) ?_)
        | (refine RA.step (L := [true, false, true, false, false, false, true, true, true, true, false, false, false, false, false, false, false]) (i := 1) (is := [3]) (by kernel_rfl) ?_)
        | (refine RA.step (L := [true, true, true, false, false, false, true, true, true, true, false, false, false, false, false, false, false]) (i := 3) (is := []) (by kernel_rfl) ?_)
        | (refine RA.step (L := [true, false, false, false, false, false, true, true, true, true, false, false, false, false, false, false, false]) (i := 1) (is := [2]) (by kernel_rfl) ?_)
        | (refine RA.step (L := [true, true, false, false, false, false, true, true, true, true, false, false, false, false, false, false, false]) (i := 2) (is := []) (by kernel_rfl) ?_)
        | (refine RA.step (L := [false, false, true, false, false, false, true, false, true, true, false, false, false, false, false, false, false]) (i := 0) (is := [3, 7]) (by kernel_rfl) ?_)
        | (refine RA.step (L := [false, false, true, true, false, false, true, false, true, true, false, false, false, false, false, false, false]) (i := 0) (is := [7]) (by kernel_rfl) ?_)
        | (refine RA.step (L := [true, false, true, true, false, false, true, false, true, true, false, false, false, false, false, false, false]) (i := 1) (is := [7]) (by kernel_rfl) ?_)
        | (refine RA.step (L := [true, true, true, true, false, false, true, false, true, true, false, false, false, false, false, false, false]) (i := 4) (is := [7]) (by kernel_rfl) ?_)
        | (refine RA.step (L := [true, true, true, true, true, false, true, false, true, true, false, false, false, false, false, false, false]) (i := 5) (is := [7]) (by kernel_rfl) ?_)
        | (refine RA.step (L := [true, true, true, true, true, true, true, false, true, true, false, false, false, false, false, false, false]) (i := 7) (is := []) (by kernel_rfl) ?_)
        | (refine RA.step (L := [true, false, true, false, false, false, true, false, true, true, false, false, false, false, false, false, false]) (i := 1) (is := [3, 7]) (by kernel_rfl) ?_)
        | (refine RA.step (L := [true, true, true, false, false, false, true, false, true, true, false, false, false, false, false, false, false]) (i := 3) (is := [7]) (by kernel_rfl) ?_)
        | (refine RA.step (L := [true, false, false, false, false, false, true, false, true, true, false, false, false, false, false, false, false]) (i := 1) (is := [2, 7]) (by kernel_rfl) ?_)
        | (refine RA.step (L := [true, true, false, false, false, false, true, false, true, true, false, false, false, false, false, false, false]) (i := 2) (is := [7]) (by kernel_rfl) ?_)
        | (refine RA.step (L := [false, false, true, false, false, false, false, false, true, true, false, false, false, false, false, false, false]) (i := 0) (is := [3, 6]) (by kernel_rfl) ?_)
        | (refine RA.step (L := [false, false, true, true, false, false, false, false, true, true, false, false, false, false, false, false, false]) (i := 0) (is := [6]) (by kernel_rfl) ?_)
        | (refine RA.step (L := [true, false, true, true, false, false, false, false, true, true, false, false, false, false, false, false, false]) (i := 1) (is := [6]) (by kernel_rfl) ?_)
        | (refine RA.step (L := [true, true, true, true, false, false, false, false, true, true, false, false, false, false, false, false, false]) (i := 4) (is := [6]) (by kernel_rfl) ?_)
        | (refine RA.step (L := [true, true, true, true, true, false, false, false, true, true, false, false, false, false, false, false, false]) (i := 5) (is := [6]) (by kernel_rfl) ?_)
        | (refine RA.step (L := [true, true, true, true, true, true, false, false, true, true, false, false, false, false, false, false, false]) (i := 6) (is := []) (by kernel_rfl) ?_)
        | (refine RA.step (L := [true, false, true, false, false, false, false, false, true, true, false, false, false, false, false, false, false]) (i := 1) (is := [3, 6]) (by kernel_rfl) ?_)
        | (refine RA.step (L := [true, true, true, false, false, false, false, false, true, true, false, false, false, false, false, false, false]) (i := 3) (is := [6]) (by kernel_rfl) ?_)
        | (refine RA.step (L := [true, false, false, false, false, false, false, false, true, true, false, false, false, false, false, false, false]) (i := 1) (is := [2, 6]) (by kernel_rfl) ?_)
        | (refine RA.step (L := [true, true, false, false, false, false, false, false, true, true, false, false, false, false, false, false, false]) (i := 2) (is := [6]) (by kernel_rfl) ?_)
        | (refine RA.step (L := [false, false, false, false, false, false, true, false, true, false, false, false, false, false, false, false, false]) (i := 0) (is := [2, 7, 9]) (by kernel_rfl) ?_)
        | (refine RA.step (L := [false, false, false, false, false, false, true, true, true, false, false, false, false, false, false, false, false]) (i := 0) (is := [2, 9]) (by kernel_rfl) ?_)
        | (refine RA.step (L := [false, false, true, false, false, false, true, true, true, false, false, false, false, false, false, false, false]) (i := 0) (is := [3, 9]) (by kernel_rfl) ?_)
        | (refine RA.step (L := [false, false, true, true, false, false, true, true, true, false, false, false, false, false, false, false, false]) (i := 0) (is := [9]) (by kernel_rfl) ?_)
        | (refine RA.step (L := [true, false, true, true, false, false, true, true, true, false, false, false, false, false, false, false, false]) (i := 1) (is := [9]) (by kernel_rfl) ?_)
        | (refine RA.step (L := [true, true, true, true, false, false, true, true, true, false, false, false, false, false, false, false, false]) (i := 4) (is := [9]) (by kernel_rfl) ?_)
        | (refine RA.step (L := [true, true, true, true, true, false, true, true, true, false, false, false, false, false, false, false, false]) (i := 5) (is := [9]) (by kernel_rfl) ?_)
        | (refine RA.step (L := [true, true, true, true, true, true, true, true, true, false, false, false, false, false, false, false, false]) (i := 9) (is := []) (by kernel_rfl) ?_)
        | (refine RA.step (L := [true, false, true, false, false, false, true, true, true, false, false, false, false, false, false, false, false]) (i := 1) (is := [3, 9]) (by kernel_rfl) ?_)
        | (refine RA.step (L := [true, true, true, false, false, false, true, true, true, false, false, false, false, false, false, false, false]) (i := 3) (is := [9]) (by kernel_rfl) ?_)
        | (refine RA.step (L := [true, false, false, false, false, false, true, true, true, false, false, false, false, false, false, false, false]) (i := 1) (is := [2, 9]) (by kernel_rfl) ?_)
        | (refine RA.step (L := [true, true, false, false, false, false, true, true, true, false, false, false, false, false, false, false, false]) (i := 2) (is := [9]) (by kernel_rfl) ?_)
        | (refine RA.step (L := [false, false, true, false, false, false, true, false, true, false, false, false, false, false, false, false, false]) (i := 0) (is := [3, 7, 9]) (by kernel_rfl) ?_)
        | (refine RA.step (L := [false, false, true, true, false, false, true, false, true, false, false, false, false, false, false, false, false]) (i := 0) (is := [7, 9]) (by kernel_rfl) ?_)
        | (refine RA.step (L := [true, false, true, true, false, false, true, false, true, false, false, false, false, false, false, false, false]) (i := 1) (is := [7, 9]) (by kernel_rfl) ?_)
        | (refine RA.step (L := [true, true, true, true, false, false, true, false, true, false, false, false, false, false, false, false, false]) (i := 4) (is := [7, 9]) (by kernel_rfl) ?_)
        | (refine RA.step (L := [true, true, true, true, true, false, true, false, true, false, false, false, false, false, false, false, false]) (i := 5) (is := [7, 9]) (by kernel_rfl) ?_)
        | (refine RA.step (L := [true, true, true, true, true, true, true, false, true, false, false, false, false, false, false, false, false]) (i := 7) (is := [9]) (by kernel_rfl) ?_)
        | (refine RA.step (L := [true, false, true, false, false, false, true, false, true, false, false, false, false, false, false, false, false]) (i := 1) (is := [3, 7, 9]) (by kernel_rfl) ?_)
        | (refine RA.step (L := [true, true, true, false, false, false, true, false, true, false, false, false, false, false, false, false, false]) (i := 3) (is := [7, 9]) (by kernel_rfl) ?_)
        | (refine RA.step (L := [true, false, false, false, false, false, true, false, true, false, false, false, false, false, false, false, false]) (i := 1) (is := [2, 7, 9]) (by kernel_rfl) ?_)
        | (refine RA.step (L := [true, true, false, false, false, false, true, false, true, false, false, false, false, false, false, false, false]) (i := 2) (is := [7, 9]) (by kernel_rfl) ?_)
        | (refine RA.step (L := [false, false, true, false, false, false, false, false, true, false, false, false, false, false, false, false, false]) (i := 0) (is := [3, 6, 9]) (by kernel_rfl) ?_)
        | (refine RA.step (L := [false, false, true, true, false, false, false, false, true, false, false, false, false, false, false, false, false]) (i := 0) (is := [6, 9]) (by kernel_rfl) ?_)
        | (refine RA.step (L := [true, false, true, true, false, false, false, false, true, false, false, false, false, false, false, false, false]) (i := 1) (is := [6, 9]) (by kernel_rfl) ?_)
        | (refine RA.step (L := [true, true, true, true, false, false, false, false, true, false, false, false, false, false, false, false, false]) (i := 4) (is := [6, 9]) (by kernel_rfl) ?_)
        | (refine RA.step (L := [true, true, true, true, true, false, false, false, true, false, false, false, false, false, false, false, false]) (i := 5) (is := [6, 9]) (by kernel_rfl) ?_)
        | (refine RA.step (L := [true, true, true, true, true, true, false, false, true, false, false, false, false, false, false, false, false]) (i := 6) (is := [9]) (by kernel_rfl) ?_)
        | (refine RA.step (L := [true, false, true, false, false, false, false, false, true, false, false, false, false, false, false, false, false]) (i := 1) (is := [3, 6, 9]) (by kernel_rfl) ?_)
        | (refine RA.step (L := [true, true, true, false, false, false, false, false, true, false, false, false, false, false, false, false, false]) (i := 3) (is := [6, 9]) (by kernel_rfl) ?_)
        | (refine RA.step (L := [true, false, false, false, false, false, false, false, true, false, false, false, false, false, false, false, false]) (i := 1) (is := [2, 6, 9]) (by kernel_rfl) ?_)
        | (refine RA.step (L := [true, true, false, false, false, false, false, false, true, false, false, false, false, false, false, false, false]) (i := 2) (is := [6, 9]) (by kernel_rfl) ?_)
        | (refine RA.step (L := [false, false, false, false, false, false, true, false, false, false, false, false, false, false, false, false, false]) (i := 0) (is := [2, 7, 8]) (by kernel_rfl) ?_)
        | (refine RA.step (L := [false, false, false, false, false, false, true, true, false, false, false, false, false, false, false, false, false]) (i := 0) (is := [2, 8]) (by kernel_rfl) ?_)
        | (refine RA.step (L := [false, false, true, false, false, false, true, true, false, false, false, false, false, false, false, false, false]) (i := 0) (is := [3, 8]) (by kernel_rfl) ?_)
        | (refine RA.step (L := [false, false, true, true, false, false, true, true, false, false, false, false, false, false, false, false, false]) (i := 0) (is := [8]) (by kernel_rfl) ?_)
        | (refine RA.step (L := [true, false, true, true, false, false, true, true, false, false, false, false, false, false, false, false, false]) (i := 1) (is := [8]) (by kernel_rfl) ?_)
        | (refine RA.step (L := [true, true, true, true, false, false, true, true, false, false, false, false, false, false, false, false, false]) (i := 4) (is := [8]) (by kernel_rfl) ?_)
        | (refine RA.step (L := [true, true, true, true, true, false, true, true, false, false, false, false, false, false, false, false, false]) (i := 5) (is := [8]) (by kernel_rfl) ?_)
        | (refine RA.step (L := [true, true, true, true, true, true, true, true, false, false, false, false, false, false, false, false, false]) (i := 8) (is := []) (by kernel_rfl) ?_)
        | (refine RA.step (L := [true, false, true, false, false, false, true, true, false, false, false, false, false, false, false, false, false]) (i := 1) (is := [3, 8]) (by kernel_rfl) ?_)
        | (refine RA.step (L := [true, true, true, false, false, false, true, true, false, false, false, false, false, false, false, false, false]) (i := 3) (is := [8]) (by kernel_rfl) ?_)
        | (refine RA.step (L := [true, false, false, false, false, false, true, true, false, false, false, false, false, false, false, false, false]) (i := 1) (is := [2, 8]) (by kernel_rfl) ?_)
        | (refine RA.step (L := [true, true, false, false, false, false, true, true, false, false, false, false, false, false, false, false, false]) (i := 2) (is := [8]) (by kernel_rfl) ?_)
        | (refine RA.step (L := [false, false, true, false, false, false, true, false, false, false, false, false, false, false, false, false, false]) (i := 0) (is := [3, 7, 8]) (by kernel_rfl) ?_)
        | (refine RA.step (L := [false, false, true, true, false, false, true, false, false, false, false, false, false, false, false, false, false]) (i := 0) (is := [7, 8]) (by kernel_rfl) ?_)
        | (refine RA.step (L := [true, false, true, true, false, false, true, false, false, false, false, false, false, false, false, false, false]) (i := 1) (is := [7, 8]) (by kernel_rfl) ?_)
        | (refine RA.step (L := [true, true, true, true, false, false, true, false, false, false, false, false, false, false, false, false, false]) (i := 4) (is := [7, 8]) (by kernel_rfl) ?_)
        | (refine RA.step (L := [true, true, true, true, true, false, true, false, false, false, false, false, false, false, false, false, false]) (i := 5) (is := [7, 8]) (by kernel_rfl) ?_)
        | (refine RA.step (L := [true, true, true, true, true, true, true, false, false, false, false, false, false, false, false, false, false]) (i := 7) (is := [8]) (by kernel_rfl) ?_)
        | (refine RA.step (L := [true, false, true, false, false, false, true, false, false, false, false, false, false, false, false, false, false]) (i := 1) (is := [3, 7, 8]) (by kernel_rfl) ?_)
        | (refine RA.step (L := [true, true, true, false, false, false, true, false, false, false, false, false, false, false, false, false, false]) (i := 3) (is := [7, 8]) (by kernel_rfl) ?_)
        | (refine RA.step (L := [true, false, false, false, false, false, true, false, false, false, false, false, false, false, false, false, false]) (i := 1) (is := [2, 7, 8]) (by kernel_rfl) ?_)
        | (refine RA.step (L := [true, true, false, false, false, false, true, false, false, false, false, false, false, false, false, false, false]) (i := 2) (is := [7, 8]) (by kernel_rfl) ?_)
        | (refine RA.step (L := [false, false, true, false, false, false, false, false, false, false, false, false, false, false, false, false, false]) (i := 0) (is := [3, 6, 8]) (by kernel_rfl) ?_)
        | (refine RA.step (L := [false, false, true, true, false, false, false, false, false, false, false, false, false, false, false, false, false]) (i := 0) (is := [6, 8]) (by kernel_rfl) ?_)
        | (refine RA.step (L := [true, false, true, true, false, false, false, false, false, false, false, false, false, false, false, false, false]) (i := 1) (is := [6, 8]) (by kernel_rfl) ?_)
        | (refine RA.step (L := [true, true, true, true, false, false, false, false, false, false, false, false, false, false, false, false, false]) (i := 4) (is := [6, 8]) (by kernel_rfl) ?_)
        | (refine RA.step (L := [true, true, true, true, true, false, false, false, false, false, false, false, false, false, false, false, false]) (i := 5) (is := [6, 8]) (by kernel_rfl) ?_)
        | (refine RA.step (L := [true, true, true, true, true, true, false, false, false, false, false, false, false, false, false, false, false]) (i := 6) (is := [8]) (by kernel_rfl) ?_)
        | (refine RA.step (L := [true, false, true, false, false, false, false, false, false, false, false, false, false, false, false, false, false]) (i := 1) (is := [3, 6, 8]) (by kernel_rfl) ?_)
        | (refine RA.step (L := [true, true, true, false, false, false, false, false, false, false, false, false, false, false, false, false, false]) (i := 3) (is := [6, 8]) (by kernel_rfl) ?_)
        | (refine RA.step (L := [true, false, false, false, false, false, false, false, false, false, false, false, false, false, false, false, false]) (i := 1) (is := [2, 6, 8]) (by kernel_rfl) ?_)
        | (refine RA.step (L := [true, true, false, false, false, false, false, false, false, false, false, false, false, false, false, false, false]) (i := 2) (is := [6, 8]) (by kernel_rfl) ?_)
        | (refine W.condA (ht := fun hb => ?_) (hf := fun hb => ?_) <;> (try simp at hb) <;> (try (exfalso; omega))))
      exact FinM.ret ResM.auto
end Go.Proofs.YtipghibmgfhmpaaGreatDoor
