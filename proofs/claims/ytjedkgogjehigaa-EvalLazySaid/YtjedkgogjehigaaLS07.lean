/-
  Part 7 of what the proof rests on.
-/
import Derived.Test.YtjedkgogjehigaaLS06
import Derived.Test.YtjedkgogjehigaaLS05
import Derived.Test.YtjedkgogjehigaaLS04
import Derived.Laws.IdiomStrings
section
set_option linter.unusedVariables false
set_option linter.unusedSimpArgs false
set_option maxHeartbeats 8000000
set_option linter.unusedSectionVars false
namespace Go.Proofs.Ytjedkgogjehigaa
open Lf Go
attribute [local irreducible] PureOp EffOp Ev RG W Then InBlock Lf.Fin nth App InitE Pick SubE EvL EvD EvP EvR ResL Lf.Lex SubR SubBR EvC FinO FinM ResM ResD FinS val pw digs trimL
theorem addZ_ok (x y : Int) (hx : okZ x) (hy : okZ y) : ACalls Try.prog 102 [zB x, zB y] (.tup [zB (fullZ (x + y)), cI (fullE (x + y))]) := by
  have h1 := right_yes hx
  have h2 := right_yes hy
  have l1 := num_len hx
  have l2 := num_len hy
  have hs := mul_sgn x y
  have c1 := sgn_cases x
  have c2 := sgn_cases y
  have mx := mag_nn x
  have my := mag_nn y
  have hx' := hx
  have hy' := hy
  unfold okZ at hx' hy'
  have hz61 : mag (x + y) < pw 61 := by
    have := sgn_cases (x + y)
    have : pw 61 = 1048576 * pw 60 := pw_succ 60
    omega
  have l5 : (digs (mag (x + y))).length ≤ 61 := (digs_len (mag_nn _)).2 hz61
  have h5 := checked_yes (x + y) (by omega)
  by_cases hc : 0 ≤ sgn x * sgn y
  · have h6 := orTwo_ok (sgn x) (sgn y)
    have h3 := add_ok (digs (mag x)) (digs (mag y)) (digs_norm _).dig (digs_norm _).dig (by omega) (by omega)
    rw [val_mag, val_mag] at h3
    have e0 : x + y = (if sgn x = 0 then sgn y else sgn x) * (mag x + mag y) ∧ ((if sgn x = 0 then sgn y else sgn x) = 1 ∨ (if sgn x = 0 then sgn y else sgn x) = -1 ∨ mag x + mag y = 0) := by
      rcases c1 with h | h | h <;> rcases c2 with h' | h' | h' <;> rw [h.1, h'.1] at hc ⊢ <;> rw [h.2.2, h'.2.2] <;> simp at hc ⊢ <;> omega
    have em : mag (x + y) = mag x + mag y := (num_of (by omega) e0.2 e0.1).1
    have h4 := signed_ok (if sgn x = 0 then sgn y else sgn x) (digs (mag x + mag y)) (digs_norm _).dig (by rw [← em]; omega) (x + y) (by rw [val_digs (by omega)]; exact e0.2) (by rw [val_digs (by omega)]; exact e0.1)
    generalize (if sgn x = 0 then sgn y else sgn x) = s at *
    generalize x + y = z at *
    refine ACalls.of_M TYok (qs := [zB (fullZ z), cI (fullE z)]) [.cell 4 38, .tmp 5] 69 Try.func102 (by kernel_rfl) rfl rfl rfl fun G => ?_
    refine W.initA (hw := ?_)
    repeat' (first | ((first | apply U_ | (apply Ug_; exact rfl; exact rfl) | (apply Ugq_; exact rfl; exact rfl) | apply Lex.u | (apply Lex.g; exact rfl; exact rfl) | (apply Lex.gq; exact rfl; exact rfl)); (first | exact QX.B TYok | exact QX.Ext TYok | exact QX.Build TYok | exact QCl (h1) | exact QCl (h2) | exact QCd (h3) | exact QCd (h4) | exact QCd (h5) | exact QCl (h6)); exact rfl) | refine SX.Alloc TYok (h := ?_) | refine SX.Store TYok (h := ?_) | refine SX.Lit TYok (h := ?_) | refine SX.Box TYok (h := ?_) | refine SC ?_ | refine SG ?_ | (apply W.draw2 (id := 6) [0, 1, 0, 4, 0, 16, 60, 127, 255, 511, 511, 2047, 4095] [[3], [47], [3], [49], [2], [51], [50, 52], [48, 53], [54], [55], [55]] 11 [(47, 8), (48, 140737488355328), (49, 8), (50, 562949953421312), (51, 4), (52, 2251799813685248), (53, 5629499534213120), (54, 9288674231451648), (55, 18014398509481984), (56, 36028797018963968), (57, 36028797018963968)] mixed (by kernel_rfl) rfl rfl) | (apply W.draw2 (id := 7) [0, 1, 0, 4, 0, 16, 60, 127, 255, 511, 511, 2047, 4095] [[2], [58], [2], [60], [3], [62], [61, 63], [59, 64], [65], [66], [66]] 11 [(58, 4), (59, 288230376151711744), (60, 4), (61, 1152921504606846976), (62, 8), (63, 4611686018427387904), (64, 11529215046068469760), (65, 19023204826012975104), (66, 36893488147419103232), (67, 73786976294838206464), (68, 73786976294838206464)] mixed (by kernel_rfl) rfl rfl) | (refine W.drawF (id := 4) [0, 1, 0, 4, 15, 31, 0, 64, 0, 256, 1023, 2047, 4095, 8191, 8191, 32767, 65535] [[2], [25], [3], [27], [26, 28], [29], [2], [31], [3], [33], [32, 34], [30, 35], [36], [37], [37]] 15 [(25, 4), (26, 33554432), (27, 8), (28, 134217728), (29, 335544320), (30, 536870912), (31, 4), (32, 2147483648), (33, 8), (34, 8589934592), (35, 21474836480), (36, 35433480192), (37, 68719476736), (38, 137438953472), (39, 137438953472)] [(4, (29, ⟨3, 1, [[.int .i64 (sgn x)], [.int .i64 (sgn y)]]⟩))] mixed (by kernel_rfl) rfl rfl rfl rfl rfl rfl ?_) | apply LexE.nil | (apply LexE.e (k := 0); exact rfl; apply FreshAt.lit TYok; (repeat (first | exact EvR.nil | apply EvR.cons Ev.auto)); exact rfl; exact rfl; exact rfl; exact rfl; exact rfl; exact rfl; exact rfl; exact rfl; exact rfl; exact rfl; exact rfl) | (apply LexE.ge (k := 0); exact rfl; exact rfl; (first | assumption | decide | exact rfl); exact rfl; apply FreshAt.lit TYok; (repeat (first | exact EvR.nil | apply EvR.cons Ev.auto)); exact rfl; exact rfl; exact rfl; exact rfl; exact rfl; exact rfl; exact rfl; exact rfl; exact rfl; exact rfl; exact rfl) | ((first | apply LexE.u | (apply LexE.g; exact rfl; exact rfl) | (apply LexE.gq; exact rfl; exact rfl)); (first | (first | exact QX.B TYok | exact QX.Ext TYok | exact QX.Build TYok | exact QCl (h1) | exact QCl (h2) | exact QCd (h3) | exact QCd (h4) | exact QCd (h5) | exact QCl (h6)) | (apply PureOp.off; intro hp; simp_all; done)); exact rfl; exact rfl; exact rfl) | (refine W.condA (ht := fun hb => ?_) (hf := fun hb => ?_) <;> (try simp at hb) <;> (try (exfalso; omega))))
    exact FinM.ret ResM.auto
  · have h6 := compare_ok (digs (mag x)) (digs (mag y)) (digs_norm _) (digs_norm _) (by omega) (by omega)
    rw [val_mag, val_mag] at h6
    by_cases hlt : mag x < mag y
    · have h3 := sub_ok (digs (mag y)) (digs (mag x)) (digs_norm _).dig (digs_norm _).dig (by omega) (digs_mono mx (by omega)) (by rw [val_mag, val_mag]; omega)
      rw [val_mag, val_mag] at h3
      have e0 : x + y = sgn y * (mag y - mag x) ∧ (sgn y = 1 ∨ sgn y = -1 ∨ mag y - mag x = 0) := by
        rcases c1 with h | h | h <;> rcases c2 with h' | h' | h' <;> rw [h.1, h'.1] at hc <;> rw [h'.1, h.2.2, h'.2.2] <;> simp at hc ⊢ <;> omega
      have em : mag (x + y) = mag y - mag x := (num_of (by omega) e0.2 e0.1).1
      have h4 := signed_ok (sgn y) (digs (mag y - mag x)) (digs_norm _).dig (by rw [← em]; omega) (x + y) (by rw [val_digs (by omega)]; exact e0.2) (by rw [val_digs (by omega)]; exact e0.1)
      rw [show cmpI (mag x) (mag y) = -1 from if_pos hlt] at h6
      generalize x + y = z at *
      refine ACalls.of_M TYok (qs := [zB (fullZ z), cI (fullE z)]) [.cell 4 38, .tmp 5] 69 Try.func102 (by kernel_rfl) rfl rfl rfl fun G => ?_
      refine W.initA (hw := ?_)
      repeat' (first | ((first | apply U_ | (apply Ug_; exact rfl; exact rfl) | (apply Ugq_; exact rfl; exact rfl) | apply Lex.u | (apply Lex.g; exact rfl; exact rfl) | (apply Lex.gq; exact rfl; exact rfl)); (first | exact QX.B TYok | exact QX.Ext TYok | exact QX.Build TYok | exact QCl (h1) | exact QCl (h2) | exact QCd (h3) | exact QCd (h4) | exact QCd (h5) | exact QCl (h6)); exact rfl) | refine SX.Alloc TYok (h := ?_) | refine SX.Store TYok (h := ?_) | refine SX.Lit TYok (h := ?_) | refine SX.Box TYok (h := ?_) | refine SC ?_ | refine SG ?_ | (apply W.draw2 (id := 6) [0, 1, 0, 4, 0, 16, 60, 127, 255, 511, 511, 2047, 4095] [[3], [47], [3], [49], [2], [51], [50, 52], [48, 53], [54], [55], [55]] 11 [(47, 8), (48, 140737488355328), (49, 8), (50, 562949953421312), (51, 4), (52, 2251799813685248), (53, 5629499534213120), (54, 9288674231451648), (55, 18014398509481984), (56, 36028797018963968), (57, 36028797018963968)] mixed (by kernel_rfl) rfl rfl) | (apply W.draw2 (id := 7) [0, 1, 0, 4, 0, 16, 60, 127, 255, 511, 511, 2047, 4095] [[2], [58], [2], [60], [3], [62], [61, 63], [59, 64], [65], [66], [66]] 11 [(58, 4), (59, 288230376151711744), (60, 4), (61, 1152921504606846976), (62, 8), (63, 4611686018427387904), (64, 11529215046068469760), (65, 19023204826012975104), (66, 36893488147419103232), (67, 73786976294838206464), (68, 73786976294838206464)] mixed (by kernel_rfl) rfl rfl) | (refine W.drawA (id := 4) (L := [false, false, false, false, false, false, false, false, false, false, false, false, false, false, false, false, false]) mixed rfl ?_) | exact RAll.nil | (refine RAll.cons rfl ?_ ?_) | (refine RA.step (L := [false, false, false, false, false, false, false, false, false, false, false, false, false, false, false, false, false]) (i := 0) (is := [2, 6, 8]) (by kernel_rfl) ?_) | (refine RA.step (L := [false, false, false, false, false, false, false, false, true, false, false, false, false, false, false, false, false]) (i := 0) (is := [2, 6, 9]) (by kernel_rfl) ?_) | (refine RA.step (L := [false, false, false, false, false, false, false, false, true, true, false, false, false, false, false, false, false]) (i := 0) (is := [2, 6]) (by kernel_rfl) ?_) | (refine RA.step (L := [false, false, false, false, false, false, true, false, true, true, false, false, false, false, false, false, false]) (i := 0) (is := [2, 7]) (by kernel_rfl) ?_) | (refine RA.step (L := [false, false, false, false, false, false, true, true, true, true, false, false, false, false, false, false, false]) (i := 0) (is := [2]) (by kernel_rfl) ?_) | (refine RA.step (L := [false, false, true, false, false, false, true, true, true, true, false, false, false, false, false, false, false]) (i := 0) (is := [3]) (by kernel_rfl) ?_) | (refine RA.step (L := [false, false, true, true, false, false, true, true, true, true, false, false, false, false, false, false, false]) (i := 0) (is := []) (by kernel_rfl) ?_) | (refine RA.step (L := [true, false, true, true, false, false, true, true, true, true, false, false, false, false, false, false, false]) (i := 1) (is := []) (by kernel_rfl) ?_) | (refine RA.step (L := [true, true, true, true, false, false, true, true, true, true, false, false, false, false, false, false, false]) (i := 4) (is := []) (by kernel_rfl) ?_) | (refine RA.step (L := [true, true, true, true, true, false, true, true, true, true, false, false, false, false, false, false, false]) (i := 5) (is := []) (by kernel_rfl) ?_) | (refine RA.step (L := [true, true, true, true, true, true, true, true, true, true, false, false, false, false, false, false, false]) (i := 10) (is := []) (by kernel_rfl) ?_) | (refine RA.step (L := [true, true, true, true, true, true, true, true, true, true, true, false, false, false, false, false, false]) (i := 11) (is := []) (by kernel_rfl) ?_) | (refine RA.step (L := [true, true, true, true, true, true, true, true, true, true, true, true, false, false, false, false, false]) (i := 12) (is := []) (by kernel_rfl) ?_) | (refine RA.step (L := [true, true, true, true, true, true, true, true, true, true, true, true, true, false, false, false, false]) (i := 13) (is := [14]) (by kernel_rfl) ?_) | (refine RA.step (L := [true, true, true, true, true, true, true, true, true, true, true, true, true, false, true, false, false]) (i := 13) (is := []) (by kernel_rfl) ?_) | (refine RA.step (L := [true, true, true, true, true, true, true, true, true, true, true, true, true, true, true, false, false]) (i := 15) (is := []) (by kernel_rfl) ?_) | (refine RA.step (L := [true, true, true, true, true, true, true, true, true, true, true, true, true, true, true, true, false]) (i := 16) (is := []) (by kernel_rfl) ?_) | (refine RA.done (L := [true, true, true, true, true, true, true, true, true, true, true, true, true, true, true, true, true]) (by kernel_rfl) ?_) | (refine RA.step (L := [true, true, true, true, true, true, true, true, true, true, true, true, true, true, false, false, false]) (i := 14) (is := []) (by kernel_rfl) ?_) | (refine RA.step (L := [true, false, true, false, false, false, true, true, true, true, false, false, false, false, false, false, false]) (i := 1) (is := [3]) (by kernel_rfl) ?_) | (refine RA.step (L := [true, true, true, false, false, false, true, true, true, true, false, false, false, false, false, false, false]) (i := 3) (is := []) (by kernel_rfl) ?_) | (refine RA.step (L := [true, false, false, false, false, false, true, true, true, true, false, false, false, false, false, false, false]) (i := 1) (is := [2]) (by kernel_rfl) ?_) | (refine RA.step (L := [true, true, false, false, false, false, true, true, true, true, false, false, false, false, false, false, false]) (i := 2) (is := []) (by kernel_rfl) ?_) | (refine RA.step (L := [false, false, true, false, false, false, true, false, true, true, false, false, false, false, false, false, false]) (i := 0) (is := [3, 7]) (by kernel_rfl) ?_) | (refine RA.step (L := [false, false, true, true, false, false, true, false, true, true, false, false, false, false, false, false, false]) (i := 0) (is := [7]) (by kernel_rfl) ?_) | (refine RA.step (L := [true, false, true, true, false, false, true, false, true, true, false, false, false, false, false, false, false]) (i := 1) (is := [7]) (by kernel_rfl) ?_) | (refine RA.step (L := [true, true, true, true, false, false, true, false, true, true, false, false, false, false, false, false, false]) (i := 4) (is := [7]) (by kernel_rfl) ?_) | (refine RA.step (L := [true, true, true, true, true, false, true, false, true, true, false, false, false, false, false, false, false]) (i := 5) (is := [7]) (by kernel_rfl) ?_) | (refine RA.step (L := [true, true, true, true, true, true, true, false, true, true, false, false, false, false, false, false, false]) (i := 7) (is := []) (by kernel_rfl) ?_) | (refine RA.step (L := [true, false, true, false, false, false, true, false, true, true, false, false, false, false, false, false, false]) (i := 1) (is := [3, 7]) (by kernel_rfl) ?_) | (refine RA.step (L := [true, true, true, false, false, false, true, false, true, true, false, false, false, false, false, false, false]) (i := 3) (is := [7]) (by kernel_rfl) ?_) | (refine RA.step (L := [true, false, false, false, false, false, true, false, true, true, false, false, false, false, false, false, false]) (i := 1) (is := [2, 7]) (by kernel_rfl) ?_) | (refine RA.step (L := [true, true, false, false, false, false, true, false, true, true, false, false, false, false, false, false, false]) (i := 2) (is := [7]) (by kernel_rfl) ?_) | (refine RA.step (L := [false, false, true, false, false, false, false, false, true, true, false, false, false, false, false, false, false]) (i := 0) (is := [3, 6]) (by kernel_rfl) ?_) | (refine RA.step (L := [false, false, true, true, false, false, false, false, true, true, false, false, false, false, false, false, false]) (i := 0) (is := [6]) (by kernel_rfl) ?_) | (refine RA.step (L := [true, false, true, true, false, false, false, false, true, true, false, false, false, false, false, false, false]) (i := 1) (is := [6]) (by kernel_rfl) ?_) | (refine RA.step (L := [true, true, true, true, false, false, false, false, true, true, false, false, false, false, false, false, false]) (i := 4) (is := [6]) (by kernel_rfl) ?_) | (refine RA.step (L := [true, true, true, true, true, false, false, false, true, true, false, false, false, false, false, false, false]) (i := 5) (is := [6]) (by kernel_rfl) ?_) | (refine RA.step (L := [true, true, true, true, true, true, false, false, true, true, false, false, false, false, false, false, false]) (i := 6) (is := []) (by kernel_rfl) ?_) | (refine RA.step (L := [true, false, true, false, false, false, false, false, true, true, false, false, false, false, false, false, false]) (i := 1) (is := [3, 6]) (by kernel_rfl) ?_) | (refine RA.step (L := [true, true, true, false, false, false, false, false, true, true, false, false, false, false, false, false, false]) (i := 3) (is := [6]) (by kernel_rfl) ?_) | (refine RA.step (L := [true, false, false, false, false, false, false, false, true, true, false, false, false, false, false, false, false]) (i := 1) (is := [2, 6]) (by kernel_rfl) ?_) | (refine RA.step (L := [true, true, false, false, false, false, false, false, true, true, false, false, false, false, false, false, false]) (i := 2) (is := [6]) (by kernel_rfl) ?_) | (refine RA.step (L := [false, false, false, false, false, false, true, false, true, false, false, false, false, false, false, false, false]) (i := 0) (is := [2, 7, 9]) (by kernel_rfl) ?_) | (refine RA.step (L := [false, false, false, false, false, false, true, true, true, false, false, false, false, false, false, false, false]) (i := 0) (is := [2, 9]) (by kernel_rfl) ?_) | (refine RA.step (L := [false, false, true, false, false, false, true, true, true, false, false, false, false, false, false, false, false]) (i := 0) (is := [3, 9]) (by kernel_rfl) ?_) | (refine RA.step (L := [false, false, true, true, false, false, true, true, true, false, false, false, false, false, false, false, false]) (i := 0) (is := [9]) (by kernel_rfl) ?_) | (refine RA.step (L := [true, false, true, true, false, false, true, true, true, false, false, false, false, false, false, false, false]) (i := 1) (is := [9]) (by kernel_rfl) ?_) | (refine RA.step (L := [true, true, true, true, false, false, true, true, true, false, false, false, false, false, false, false, false]) (i := 4) (is := [9]) (by kernel_rfl) ?_) | (refine RA.step (L := [true, true, true, true, true, false, true, true, true, false, false, false, false, false, false, false, false]) (i := 5) (is := [9]) (by kernel_rfl) ?_) | (refine RA.step (L := [true, true, true, true, true, true, true, true, true, false, false, false, false, false, false, false, false]) (i := 9) (is := []) (by kernel_rfl) ?_) | (refine RA.step (L := [true, false, true, false, false, false, true, true, true, false, false, false, false, false, false, false, false]) (i := 1) (is := [3, 9]) (by kernel_rfl) ?_) | (refine RA.step (L := [true, true, true, false, false, false, true, true, true, false, false, false, false, false, false, false, false]) (i := 3) (is := [9]) (by kernel_rfl) ?_) | (refine RA.step (L := [true, false, false, false, false, false, true, true, true, false, false, false, false, false, false, false, false]) (i := 1) (is := [2, 9]) (by kernel_rfl) ?_) | (refine RA.step (L := [true, true, false, false, false, false, true, true, true, false, false, false, false, false, false, false, false]) (i := 2) (is := [9]) (by kernel_rfl) ?_) | (refine RA.step (L := [false, false, true, false, false, false, true, false, true, false, false, false, false, false, false, false, false]) (i := 0) (is := [3, 7, 9]) (by kernel_rfl) ?_) | (refine RA.step (L := [false, false, true, true, false, false, true, false, true, false, false, false, false, false, false, false, false]) (i := 0) (is := [7, 9]) (by kernel_rfl) ?_) | (refine RA.step (L := [true, false, true, true, false, false, true, false, true, false, false, false, false, false, false, false, false]) (i := 1) (is := [7, 9]) (by kernel_rfl) ?_) | (refine RA.step (L := [true, true, true, true, false, false, true, false, true, false, false, false, false, false, false, false, false]) (i := 4) (is := [7, 9]) (by kernel_rfl) ?_) | (refine RA.step (L := [true, true, true, true, true, false, true, false, true, false, false, false, false, false, false, false, false]) (i := 5) (is := [7, 9]) (by kernel_rfl) ?_) | (refine RA.step (L := [true, true, true, true, true, true, true, false, true, false, false, false, false, false, false, false, false]) (i := 7) (is := [9]) (by kernel_rfl) ?_) | (refine RA.step (L := [true, false, true, false, false, false, true, false, true, false, false, false, false, false, false, false, false]) (i := 1) (is := [3, 7, 9]) (by kernel_rfl) ?_) | (refine RA.step (L := [true, true, true, false, false, false, true, false, true, false, false, false, false, false, false, false, false]) (i := 3) (is := [7, 9]) (by kernel_rfl) ?_) | (refine RA.step (L := [true, false, false, false, false, false, true, false, true, false, false, false, false, false, false, false, false]) (i := 1) (is := [2, 7, 9]) (by kernel_rfl) ?_) | (refine RA.step (L := [true, true, false, false, false, false, true, false, true, false, false, false, false, false, false, false, false]) (i := 2) (is := [7, 9]) (by kernel_rfl) ?_) | (refine RA.step (L := [false, false, true, false, false, false, false, false, true, false, false, false, false, false, false, false, false]) (i := 0) (is := [3, 6, 9]) (by kernel_rfl) ?_) | (refine RA.step (L := [false, false, true, true, false, false, false, false, true, false, false, false, false, false, false, false, false]) (i := 0) (is := [6, 9]) (by kernel_rfl) ?_) | (refine RA.step (L := [true, false, true, true, false, false, false, false, true, false, false, false, false, false, false, false, false]) (i := 1) (is := [6, 9]) (by kernel_rfl) ?_) | (refine RA.step (L := [true, true, true, true, false, false, false, false, true, false, false, false, false, false, false, false, false]) (i := 4) (is := [6, 9]) (by kernel_rfl) ?_) | (refine RA.step (L := [true, true, true, true, true, false, false, false, true, false, false, false, false, false, false, false, false]) (i := 5) (is := [6, 9]) (by kernel_rfl) ?_) | (refine RA.step (L := [true, true, true, true, true, true, false, false, true, false, false, false, false, false, false, false, false]) (i := 6) (is := [9]) (by kernel_rfl) ?_) | (refine RA.step (L := [true, false, true, false, false, false, false, false, true, false, false, false, false, false, false, false, false]) (i := 1) (is := [3, 6, 9]) (by kernel_rfl) ?_) | (refine RA.step (L := [true, true, true, false, false, false, false, false, true, false, false, false, false, false, false, false, false]) (i := 3) (is := [6, 9]) (by kernel_rfl) ?_) | (refine RA.step (L := [true, false, false, false, false, false, false, false, true, false, false, false, false, false, false, false, false]) (i := 1) (is := [2, 6, 9]) (by kernel_rfl) ?_) | (refine RA.step (L := [true, true, false, false, false, false, false, false, true, false, false, false, false, false, false, false, false]) (i := 2) (is := [6, 9]) (by kernel_rfl) ?_) | (refine RA.step (L := [false, false, false, false, false, false, true, false, false, false, false, false, false, false, false, false, false]) (i := 0) (is := [2, 7, 8]) (by kernel_rfl) ?_) | (refine RA.step (L := [false, false, false, false, false, false, true, true, false, false, false, false, false, false, false, false, false]) (i := 0) (is := [2, 8]) (by kernel_rfl) ?_) | (refine RA.step (L := [false, false, true, false, false, false, true, true, false, false, false, false, false, false, false, false, false]) (i := 0) (is := [3, 8]) (by kernel_rfl) ?_) | (refine RA.step (L := [false, false, true, true, false, false, true, true, false, false, false, false, false, false, false, false, false]) (i := 0) (is := [8]) (by kernel_rfl) ?_) | (refine RA.step (L := [true, false, true, true, false, false, true, true, false, false, false, false, false, false, false, false, false]) (i := 1) (is := [8]) (by kernel_rfl) ?_) | (refine RA.step (L := [true, true, true, true, false, false, true, true, false, false, false, false, false, false, false, false, false]) (i := 4) (is := [8]) (by kernel_rfl) ?_) | (refine RA.step (L := [true, true, true, true, true, false, true, true, false, false, false, false, false, false, false, false, false]) (i := 5) (is := [8]) (by kernel_rfl) ?_) | (refine RA.step (L := [true, true, true, true, true, true, true, true, false, false, false, false, false, false, false, false, false]) (i := 8) (is := []) (by kernel_rfl) ?_) | (refine RA.step (L := [true, false, true, false, false, false, true, true, false, false, false, false, false, false, false, false, false]) (i := 1) (is := [3, 8]) (by kernel_rfl) ?_) | (refine RA.step (L := [true, true, true, false, false, false, true, true, false, false, false, false, false, false, false, false, false]) (i := 3) (is := [8]) (by kernel_rfl) ?_) | (refine RA.step (L := [true, false, false, false, false, false, true, true, false, false, false, false, false, false, false, false, false]) (i := 1) (is := [2, 8]) (by kernel_rfl) ?_) | (refine RA.step (L := [true, true, false, false, false, false, true, true, false, false, false, false, false, false, false, false, false]) (i := 2) (is := [8]) (by kernel_rfl) ?_) | (refine RA.step (L := [false, false, true, false, false, false, true, false, false, false, false, false, false, false, false, false, false]) (i := 0) (is := [3, 7, 8]) (by kernel_rfl) ?_) | (refine RA.step (L := [false, false, true, true, false, false, true, false, false, false, false, false, false, false, false, false, false]) (i := 0) (is := [7, 8]) (by kernel_rfl) ?_) | (refine RA.step (L := [true, false, true, true, false, false, true, false, false, false, false, false, false, false, false, false, false]) (i := 1) (is := [7, 8]) (by kernel_rfl) ?_) | (refine RA.step (L := [true, true, true, true, false, false, true, false, false, false, false, false, false, false, false, false, false]) (i := 4) (is := [7, 8]) (by kernel_rfl) ?_) | (refine RA.step (L := [true, true, true, true, true, false, true, false, false, false, false, false, false, false, false, false, false]) (i := 5) (is := [7, 8]) (by kernel_rfl) ?_) | (refine RA.step (L := [true, true, true, true, true, true, true, false, false, false, false, false, false, false, false, false, false]) (i := 7) (is := [8]) (by kernel_rfl) ?_) | (refine RA.step (L := [true, false, true, false, false, false, true, false, false, false, false, false, false, false, false, false, false]) (i := 1) (is := [3, 7, 8]) (by kernel_rfl) ?_) | (refine RA.step (L := [true, true, true, false, false, false, true, false, false, false, false, false, false, false, false, false, false]) (i := 3) (is := [7, 8]) (by kernel_rfl) ?_) | (refine RA.step (L := [true, false, false, false, false, false, true, false, false, false, false, false, false, false, false, false, false]) (i := 1) (is := [2, 7, 8]) (by kernel_rfl) ?_) | (refine RA.step (L := [true, true, false, false, false, false, true, false, false, false, false, false, false, false, false, false, false]) (i := 2) (is := [7, 8]) (by kernel_rfl) ?_) | (refine RA.step (L := [false, false, true, false, false, false, false, false, false, false, false, false, false, false, false, false, false]) (i := 0) (is := [3, 6, 8]) (by kernel_rfl) ?_) | (refine RA.step (L := [false, false, true, true, false, false, false, false, false, false, false, false, false, false, false, false, false]) (i := 0) (is := [6, 8]) (by kernel_rfl) ?_) | (refine RA.step (L := [true, false, true, true, false, false, false, false, false, false, false, false, false, false, false, false, false]) (i := 1) (is := [6, 8]) (by kernel_rfl) ?_) | (refine RA.step (L := [true, true, true, true, false, false, false, false, false, false, false, false, false, false, false, false, false]) (i := 4) (is := [6, 8]) (by kernel_rfl) ?_) | (refine RA.step (L := [true, true, true, true, true, false, false, false, false, false, false, false, false, false, false, false, false]) (i := 5) (is := [6, 8]) (by kernel_rfl) ?_) | (refine RA.step (L := [true, true, true, true, true, true, false, false, false, false, false, false, false, false, false, false, false]) (i := 6) (is := [8]) (by kernel_rfl) ?_) | (refine RA.step (L := [true, false, true, false, false, false, false, false, false, false, false, false, false, false, false, false, false]) (i := 1) (is := [3, 6, 8]) (by kernel_rfl) ?_) | (refine RA.step (L := [true, true, true, false, false, false, false, false, false, false, false, false, false, false, false, false, false]) (i := 3) (is := [6, 8]) (by kernel_rfl) ?_) | (refine RA.step (L := [true, false, false, false, false, false, false, false, false, false, false, false, false, false, false, false, false]) (i := 1) (is := [2, 6, 8]) (by kernel_rfl) ?_) | (refine RA.step (L := [true, true, false, false, false, false, false, false, false, false, false, false, false, false, false, false, false]) (i := 2) (is := [6, 8]) (by kernel_rfl) ?_) | (refine W.condA (ht := fun hb => ?_) (hf := fun hb => ?_) <;> (try simp at hb) <;> (try (exfalso; omega))))
      exact FinM.ret ResM.auto
    · have h3 := sub_ok (digs (mag x)) (digs (mag y)) (digs_norm _).dig (digs_norm _).dig (by omega) (digs_mono my (by omega)) (by rw [val_mag, val_mag]; omega)
      rw [val_mag, val_mag] at h3
      have e0 : x + y = sgn x * (mag x - mag y) ∧ (sgn x = 1 ∨ sgn x = -1 ∨ mag x - mag y = 0) := by
        rcases c1 with h | h | h <;> rcases c2 with h' | h' | h' <;> rw [h.1, h'.1] at hc <;> rw [h.1, h.2.2, h'.2.2] <;> simp at hc ⊢ <;> omega
      have em : mag (x + y) = mag x - mag y := (num_of (by omega) e0.2 e0.1).1
      have h4 := signed_ok (sgn x) (digs (mag x - mag y)) (digs_norm _).dig (by rw [← em]; omega) (x + y) (by rw [val_digs (by omega)]; exact e0.2) (by rw [val_digs (by omega)]; exact e0.1)
      have hcm := cmp_ge (show mag y ≤ mag x by omega)
      generalize cmpI (mag x) (mag y) = cm at *
      generalize x + y = z at *
      refine ACalls.of_M TYok (qs := [zB (fullZ z), cI (fullE z)]) [.cell 4 38, .tmp 5] 69 Try.func102 (by kernel_rfl) rfl rfl rfl fun G => ?_
      refine W.initA (hw := ?_)
      repeat' (first | ((first | apply U_ | (apply Ug_; exact rfl; exact rfl) | (apply Ugq_; exact rfl; exact rfl) | apply Lex.u | (apply Lex.g; exact rfl; exact rfl) | (apply Lex.gq; exact rfl; exact rfl)); (first | exact QX.B TYok | exact QX.Ext TYok | exact QX.Build TYok | exact QCl (h1) | exact QCl (h2) | exact QCd (h3) | exact QCd (h4) | exact QCd (h5) | exact QCl (h6)); exact rfl) | refine SX.Alloc TYok (h := ?_) | refine SX.Store TYok (h := ?_) | refine SX.Lit TYok (h := ?_) | refine SX.Box TYok (h := ?_) | refine SC ?_ | refine SG ?_ | (apply W.draw2 (id := 6) [0, 1, 0, 4, 0, 16, 60, 127, 255, 511, 511, 2047, 4095] [[3], [47], [3], [49], [2], [51], [50, 52], [48, 53], [54], [55], [55]] 11 [(47, 8), (48, 140737488355328), (49, 8), (50, 562949953421312), (51, 4), (52, 2251799813685248), (53, 5629499534213120), (54, 9288674231451648), (55, 18014398509481984), (56, 36028797018963968), (57, 36028797018963968)] mixed (by kernel_rfl) rfl rfl) | (apply W.draw2 (id := 7) [0, 1, 0, 4, 0, 16, 60, 127, 255, 511, 511, 2047, 4095] [[2], [58], [2], [60], [3], [62], [61, 63], [59, 64], [65], [66], [66]] 11 [(58, 4), (59, 288230376151711744), (60, 4), (61, 1152921504606846976), (62, 8), (63, 4611686018427387904), (64, 11529215046068469760), (65, 19023204826012975104), (66, 36893488147419103232), (67, 73786976294838206464), (68, 73786976294838206464)] mixed (by kernel_rfl) rfl rfl) | (refine W.drawA (id := 4) (L := [false, false, false, false, false, false, false, false, false, false, false, false, false, false, false, false, false]) mixed rfl ?_) | exact RAll.nil | (refine RAll.cons rfl ?_ ?_) | (refine RA.step (L := [false, false, false, false, false, false, false, false, false, false, false, false, false, false, false, false, false]) (i := 0) (is := [2, 6, 8]) (by kernel_rfl) ?_) | (refine RA.step (L := [false, false, false, false, false, false, false, false, true, false, false, false, false, false, false, false, false]) (i := 0) (is := [2, 6, 9]) (by kernel_rfl) ?_) | (refine RA.step (L := [false, false, false, false, false, false, false, false, true, true, false, false, false, false, false, false, false]) (i := 0) (is := [2, 6]) (by kernel_rfl) ?_) | (refine RA.step (L := [false, false, false, false, false, false, true, false, true, true, false, false, false, false, false, false, false]) (i := 0) (is := [2, 7]) (by kernel_rfl) ?_) | (refine RA.step (L := [false, false, false, false, false, false, true, true, true, true, false, false, false, false, false, false, false]) (i := 0) (is := [2]) (by kernel_rfl) ?_) | (refine RA.step (L := [false, false, true, false, false, false, true, true, true, true, false, false, false, false, false, false, false]) (i := 0) (is := [3]) (by kernel_rfl) ?_) | (refine RA.step (L := [false, false, true, true, false, false, true, true, true, true, false, false, false, false, false, false, false]) (i := 0) (is := []) (by kernel_rfl) ?_) | (refine RA.step (L := [true, false, true, true, false, false, true, true, true, true, false, false, false, false, false, false, false]) (i := 1) (is := []) (by kernel_rfl) ?_) | (refine RA.step (L := [true, true, true, true, false, false, true, true, true, true, false, false, false, false, false, false, false]) (i := 4) (is := []) (by kernel_rfl) ?_) | (refine RA.step (L := [true, true, true, true, true, false, true, true, true, true, false, false, false, false, false, false, false]) (i := 5) (is := []) (by kernel_rfl) ?_) | (refine RA.step (L := [true, true, true, true, true, true, true, true, true, true, false, false, false, false, false, false, false]) (i := 10) (is := []) (by kernel_rfl) ?_) | (refine RA.step (L := [true, true, true, true, true, true, true, true, true, true, true, false, false, false, false, false, false]) (i := 11) (is := []) (by kernel_rfl) ?_) | (refine RA.step (L := [true, true, true, true, true, true, true, true, true, true, true, true, false, false, false, false, false]) (i := 12) (is := []) (by kernel_rfl) ?_) | (refine RA.step (L := [true, true, true, true, true, true, true, true, true, true, true, true, true, false, false, false, false]) (i := 13) (is := [14]) (by kernel_rfl) ?_) | (refine RA.step (L := [true, true, true, true, true, true, true, true, true, true, true, true, true, false, true, false, false]) (i := 13) (is := []) (by kernel_rfl) ?_) | (refine RA.step (L := [true, true, true, true, true, true, true, true, true, true, true, true, true, true, true, false, false]) (i := 15) (is := []) (by kernel_rfl) ?_) | (refine RA.step (L := [true, true, true, true, true, true, true, true, true, true, true, true, true, true, true, true, false]) (i := 16) (is := []) (by kernel_rfl) ?_) | (refine RA.done (L := [true, true, true, true, true, true, true, true, true, true, true, true, true, true, true, true, true]) (by kernel_rfl) ?_) | (refine RA.step (L := [true, true, true, true, true, true, true, true, true, true, true, true, true, true, false, false, false]) (i := 14) (is := []) (by kernel_rfl) ?_) | (refine RA.step (L := [true, false, true, false, false, false, true, true, true, true, false, false, false, false, false, false, false]) (i := 1) (is := [3]) (by kernel_rfl) ?_) | (refine RA.step (L := [true, true, true, false, false, false, true, true, true, true, false, false, false, false, false, false, false]) (i := 3) (is := []) (by kernel_rfl) ?_) | (refine RA.step (L := [true, false, false, false, false, false, true, true, true, true, false, false, false, false, false, false, false]) (i := 1) (is := [2]) (by kernel_rfl) ?_) | (refine RA.step (L := [true, true, false, false, false, false, true, true, true, true, false, false, false, false, false, false, false]) (i := 2) (is := []) (by kernel_rfl) ?_) | (refine RA.step (L := [false, false, true, false, false, false, true, false, true, true, false, false, false, false, false, false, false]) (i := 0) (is := [3, 7]) (by kernel_rfl) ?_) | (refine RA.step (L := [false, false, true, true, false, false, true, false, true, true, false, false, false, false, false, false, false]) (i := 0) (is := [7]) (by kernel_rfl) ?_) | (refine RA.step (L := [true, false, true, true, false, false, true, false, true, true, false, false, false, false, false, false, false]) (i := 1) (is := [7]) (by kernel_rfl) ?_) | (refine RA.step (L := [true, true, true, true, false, false, true, false, true, true, false, false, false, false, false, false, false]) (i := 4) (is := [7]) (by kernel_rfl) ?_) | (refine RA.step (L := [true, true, true, true, true, false, true, false, true, true, false, false, false, false, false, false, false]) (i := 5) (is := [7]) (by kernel_rfl) ?_) | (refine RA.step (L := [true, true, true, true, true, true, true, false, true, true, false, false, false, false, false, false, false]) (i := 7) (is := []) (by kernel_rfl) ?_) | (refine RA.step (L := [true, false, true, false, false, false, true, false, true, true, false, false, false, false, false, false, false]) (i := 1) (is := [3, 7]) (by kernel_rfl) ?_) | (refine RA.step (L := [true, true, true, false, false, false, true, false, true, true, false, false, false, false, false, false, false]) (i := 3) (is := [7]) (by kernel_rfl) ?_) | (refine RA.step (L := [true, false, false, false, false, false, true, false, true, true, false, false, false, false, false, false, false]) (i := 1) (is := [2, 7]) (by kernel_rfl) ?_) | (refine RA.step (L := [true, true, false, false, false, false, true, false, true, true, false, false, false, false, false, false, false]) (i := 2) (is := [7]) (by kernel_rfl) ?_) | (refine RA.step (L := [false, false, true, false, false, false, false, false, true, true, false, false, false, false, false, false, false]) (i := 0) (is := [3, 6]) (by kernel_rfl) ?_) | (refine RA.step (L := [false, false, true, true, false, false, false, false, true, true, false, false, false, false, false, false, false]) (i := 0) (is := [6]) (by kernel_rfl) ?_) | (refine RA.step (L := [true, false, true, true, false, false, false, false, true, true, false, false, false, false, false, false, false]) (i := 1) (is := [6]) (by kernel_rfl) ?_) | (refine RA.step (L := [true, true, true, true, false, false, false, false, true, true, false, false, false, false, false, false, false]) (i := 4) (is := [6]) (by kernel_rfl) ?_) | (refine RA.step (L := [true, true, true, true, true, false, false, false, true, true, false, false, false, false, false, false, false]) (i := 5) (is := [6]) (by kernel_rfl) ?_) | (refine RA.step (L := [true, true, true, true, true, true, false, false, true, true, false, false, false, false, false, false, false]) (i := 6) (is := []) (by kernel_rfl) ?_) | (refine RA.step (L := [true, false, true, false, false, false, false, false, true, true, false, false, false, false, false, false, false]) (i := 1) (is := [3, 6]) (by kernel_rfl) ?_) | (refine RA.step (L := [true, true, true, false, false, false, false, false, true, true, false, false, false, false, false, false, false]) (i := 3) (is := [6]) (by kernel_rfl) ?_) | (refine RA.step (L := [true, false, false, false, false, false, false, false, true, true, false, false, false, false, false, false, false]) (i := 1) (is := [2, 6]) (by kernel_rfl) ?_) | (refine RA.step (L := [true, true, false, false, false, false, false, false, true, true, false, false, false, false, false, false, false]) (i := 2) (is := [6]) (by kernel_rfl) ?_) | (refine RA.step (L := [false, false, false, false, false, false, true, false, true, false, false, false, false, false, false, false, false]) (i := 0) (is := [2, 7, 9]) (by kernel_rfl) ?_) | (refine RA.step (L := [false, false, false, false, false, false, true, true, true, false, false, false, false, false, false, false, false]) (i := 0) (is := [2, 9]) (by kernel_rfl) ?_) | (refine RA.step (L := [false, false, true, false, false, false, true, true, true, false, false, false, false, false, false, false, false]) (i := 0) (is := [3, 9]) (by kernel_rfl) ?_) | (refine RA.step (L := [false, false, true, true, false, false, true, true, true, false, false, false, false, false, false, false, false]) (i := 0) (is := [9]) (by kernel_rfl) ?_) | (refine RA.step (L := [true, false, true, true, false, false, true, true, true, false, false, false, false, false, false, false, false]) (i := 1) (is := [9]) (by kernel_rfl) ?_) | (refine RA.step (L := [true, true, true, true, false, false, true, true, true, false, false, false, false, false, false, false, false]) (i := 4) (is := [9]) (by kernel_rfl) ?_) | (refine RA.step (L := [true, true, true, true, true, false, true, true, true, false, false, false, false, false, false, false, false]) (i := 5) (is := [9]) (by kernel_rfl) ?_) | (refine RA.step (L := [true, true, true, true, true, true, true, true, true, false, false, false, false, false, false, false, false]) (i := 9) (is := []) (by kernel_rfl) ?_) | (refine RA.step (L := [true, false, true, false, false, false, true, true, true, false, false, false, false, false, false, false, false]) (i := 1) (is := [3, 9]) (by kernel_rfl) ?_) | (refine RA.step (L := [true, true, true, false, false, false, true, true, true, false, false, false, false, false, false, false, false]) (i := 3) (is := [9]) (by kernel_rfl) ?_) | (refine RA.step (L := [true, false, false, false, false, false, true, true, true, false, false, false, false, false, false, false, false]) (i := 1) (is := [2, 9]) (by kernel_rfl) ?_) | (refine RA.step (L := [true, true, false, false, false, false, true, true, true, false, false, false, false, false, false, false, false]) (i := 2) (is := [9]) (by kernel_rfl) ?_) | (refine RA.step (L := [false, false, true, false, false, false, true, false, true, false, false, false, false, false, false, false, false]) (i := 0) (is := [3, 7, 9]) (by kernel_rfl) ?_) | (refine RA.step (L := [false, false, true, true, false, false, true, false, true, false, false, false, false, false, false, false, false]) (i := 0) (is := [7, 9]) (by kernel_rfl) ?_) | (refine RA.step (L := [true, false, true, true, false, false, true, false, true, false, false, false, false, false, false, false, false]) (i := 1) (is := [7, 9]) (by kernel_rfl) ?_) | (refine RA.step (L := [true, true, true, true, false, false, true, false, true, false, false, false, false, false, false, false, false]) (i := 4) (is := [7, 9]) (by kernel_rfl) ?_) | (refine RA.step (L := [true, true, true, true, true, false, true, false, true, false, false, false, false, false, false, false, false]) (i := 5) (is := [7, 9]) (by kernel_rfl) ?_) | (refine RA.step (L := [true, true, true, true, true, true, true, false, true, false, false, false, false, false, false, false, false]) (i := 7) (is := [9]) (by kernel_rfl) ?_) | (refine RA.step (L := [true, false, true, false, false, false, true, false, true, false, false, false, false, false, false, false, false]) (i := 1) (is := [3, 7, 9]) (by kernel_rfl) ?_) | (refine RA.step (L := [true, true, true, false, false, false, true, false, true, false, false, false, false, false, false, false, false]) (i := 3) (is := [7, 9]) (by kernel_rfl) ?_) | (refine RA.step (L := [true, false, false, false, false, false, true, false, true, false, false, false, false, false, false, false, false]) (i := 1) (is := [2, 7, 9]) (by kernel_rfl) ?_) | (refine RA.step (L := [true, true, false, false, false, false, true, false, true, false, false, false, false, false, false, false, false]) (i := 2) (is := [7, 9]) (by kernel_rfl) ?_) | (refine RA.step (L := [false, false, true, false, false, false, false, false, true, false, false, false, false, false, false, false, false]) (i := 0) (is := [3, 6, 9]) (by kernel_rfl) ?_) | (refine RA.step (L := [false, false, true, true, false, false, false, false, true, false, false, false, false, false, false, false, false]) (i := 0) (is := [6, 9]) (by kernel_rfl) ?_) | (refine RA.step (L := [true, false, true, true, false, false, false, false, true, false, false, false, false, false, false, false, false]) (i := 1) (is := [6, 9]) (by kernel_rfl) ?_) | (refine RA.step (L := [true, true, true, true, false, false, false, false, true, false, false, false, false, false, false, false, false]) (i := 4) (is := [6, 9]) (by kernel_rfl) ?_) | (refine RA.step (L := [true, true, true, true, true, false, false, false, true, false, false, false, false, false, false, false, false]) (i := 5) (is := [6, 9]) (by kernel_rfl) ?_) | (refine RA.step (L := [true, true, true, true, true, true, false, false, true, false, false, false, false, false, false, false, false]) (i := 6) (is := [9]) (by kernel_rfl) ?_) | (refine RA.step (L := [true, false, true, false, false, false, false, false, true, false, false, false, false, false, false, false, false]) (i := 1) (is := [3, 6, 9]) (by kernel_rfl) ?_) | (refine RA.step (L := [true, true, true, false, false, false, false, false, true, false, false, false, false, false, false, false, false]) (i := 3) (is := [6, 9]) (by kernel_rfl) ?_) | (refine RA.step (L := [true, false, false, false, false, false, false, false, true, false, false, false, false, false, false, false, false]) (i := 1) (is := [2, 6, 9]) (by kernel_rfl) ?_) | (refine RA.step (L := [true, true, false, false, false, false, false, false, true, false, false, false, false, false, false, false, false]) (i := 2) (is := [6, 9]) (by kernel_rfl) ?_) | (refine RA.step (L := [false, false, false, false, false, false, true, false, false, false, false, false, false, false, false, false, false]) (i := 0) (is := [2, 7, 8]) (by kernel_rfl) ?_) | (refine RA.step (L := [false, false, false, false, false, false, true, true, false, false, false, false, false, false, false, false, false]) (i := 0) (is := [2, 8]) (by kernel_rfl) ?_) | (refine RA.step (L := [false, false, true, false, false, false, true, true, false, false, false, false, false, false, false, false, false]) (i := 0) (is := [3, 8]) (by kernel_rfl) ?_) | (refine RA.step (L := [false, false, true, true, false, false, true, true, false, false, false, false, false, false, false, false, false]) (i := 0) (is := [8]) (by kernel_rfl) ?_) | (refine RA.step (L := [true, false, true, true, false, false, true, true, false, false, false, false, false, false, false, false, false]) (i := 1) (is := [8]) (by kernel_rfl) ?_) | (refine RA.step (L := [true, true, true, true, false, false, true, true, false, false, false, false, false, false, false, false, false]) (i := 4) (is := [8]) (by kernel_rfl) ?_) | (refine RA.step (L := [true, true, true, true, true, false, true, true, false, false, false, false, false, false, false, false, false]) (i := 5) (is := [8]) (by kernel_rfl) ?_) | (refine RA.step (L := [true, true, true, true, true, true, true, true, false, false, false, false, false, false, false, false, false]) (i := 8) (is := []) (by kernel_rfl) ?_) | (refine RA.step (L := [true, false, true, false, false, false, true, true, false, false, false, false, false, false, false, false, false]) (i := 1) (is := [3, 8]) (by kernel_rfl) ?_) | (refine RA.step (L := [true, true, true, false, false, false, true, true, false, false, false, false, false, false, false, false, false]) (i := 3) (is := [8]) (by kernel_rfl) ?_) | (refine RA.step (L := [true, false, false, false, false, false, true, true, false, false, false, false, false, false, false, false, false]) (i := 1) (is := [2, 8]) (by kernel_rfl) ?_) | (refine RA.step (L := [true, true, false, false, false, false, true, true, false, false, false, false, false, false, false, false, false]) (i := 2) (is := [8]) (by kernel_rfl) ?_) | (refine RA.step (L := [false, false, true, false, false, false, true, false, false, false, false, false, false, false, false, false, false]) (i := 0) (is := [3, 7, 8]) (by kernel_rfl) ?_) | (refine RA.step (L := [false, false, true, true, false, false, true, false, false, false, false, false, false, false, false, false, false]) (i := 0) (is := [7, 8]) (by kernel_rfl) ?_) | (refine RA.step (L := [true, false, true, true, false, false, true, false, false, false, false, false, false, false, false, false, false]) (i := 1) (is := [7, 8]) (by kernel_rfl) ?_) | (refine RA.step (L := [true, true, true, true, false, false, true, false, false, false, false, false, false, false, false, false, false]) (i := 4) (is := [7, 8]) (by kernel_rfl) ?_) | (refine RA.step (L := [true, true, true, true, true, false, true, false, false, false, false, false, false, false, false, false, false]) (i := 5) (is := [7, 8]) (by kernel_rfl) ?_) | (refine RA.step (L := [true, true, true, true, true, true, true, false, false, false, false, false, false, false, false, false, false]) (i := 7) (is := [8]) (by kernel_rfl) ?_) | (refine RA.step (L := [true, false, true, false, false, false, true, false, false, false, false, false, false, false, false, false, false]) (i := 1) (is := [3, 7, 8]) (by kernel_rfl) ?_) | (refine RA.step (L := [true, true, true, false, false, false, true, false, false, false, false, false, false, false, false, false, false]) (i := 3) (is := [7, 8]) (by kernel_rfl) ?_) | (refine RA.step (L := [true, false, false, false, false, false, true, false, false, false, false, false, false, false, false, false, false]) (i := 1) (is := [2, 7, 8]) (by kernel_rfl) ?_) | (refine RA.step (L := [true, true, false, false, false, false, true, false, false, false, false, false, false, false, false, false, false]) (i := 2) (is := [7, 8]) (by kernel_rfl) ?_) | (refine RA.step (L := [false, false, true, false, false, false, false, false, false, false, false, false, false, false, false, false, false]) (i := 0) (is := [3, 6, 8]) (by kernel_rfl) ?_) | (refine RA.step (L := [false, false, true, true, false, false, false, false, false, false, false, false, false, false, false, false, false]) (i := 0) (is := [6, 8]) (by kernel_rfl) ?_) | (refine RA.step (L := [true, false, true, true, false, false, false, false, false, false, false, false, false, false, false, false, false]) (i := 1) (is := [6, 8]) (by kernel_rfl) ?_) | (refine RA.step (L := [true, true, true, true, false, false, false, false, false, false, false, false, false, false, false, false, false]) (i := 4) (is := [6, 8]) (by kernel_rfl) ?_) | (refine RA.step (L := [true, true, true, true, true, false, false, false, false, false, false, false, false, false, false, false, false]) (i := 5) (is := [6, 8]) (by kernel_rfl) ?_) | (refine RA.step (L := [true, true, true, true, true, true, false, false, false, false, false, false, false, false, false, false, false]) (i := 6) (is := [8]) (by kernel_rfl) ?_) | (refine RA.step (L := [true, false, true, false, false, false, false, false, false, false, false, false, false, false, false, false, false]) (i := 1) (is := [3, 6, 8]) (by kernel_rfl) ?_) | (refine RA.step (L := [true, true, true, false, false, false, false, false, false, false, false, false, false, false, false, false, false]) (i := 3) (is := [6, 8]) (by kernel_rfl) ?_) | (refine RA.step (L := [true, false, false, false, false, false, false, false, false, false, false, false, false, false, false, false, false]) (i := 1) (is := [2, 6, 8]) (by kernel_rfl) ?_) | (refine RA.step (L := [true, true, false, false, false, false, false, false, false, false, false, false, false, false, false, false, false]) (i := 2) (is := [6, 8]) (by kernel_rfl) ?_) | (refine W.condA (ht := fun hb => ?_) (hf := fun hb => ?_) <;> (try simp at hb) <;> (try (exfalso; omega))))
      exact FinM.ret ResM.auto
end Go.Proofs.Ytjedkgogjehigaa
end
section
set_option linter.unusedVariables false
set_option linter.unusedSimpArgs false
set_option linter.unusedSectionVars false
namespace Lf
section
open Go Go.RowKit
section
variable {P : Program} {G : Ghost} {A : St} {Φ : Frz} {β : Own} {a : Act} {w : World} {T : TT} (hT : TOK P T)
include hT
theorem lit_run (hs : Sat G Φ β A a w) {t e n : Nat} {ps : List (Nat × Operand)} {rs : List (List Cell)} {ti te : TI} (ht : T t = some ti) (hk : ti.kind = .slice e) (he : T e = some te)
    (hx : EvR A ps 0 rs) (hlen : rs.length = n) (hrs : ∀ r ∈ rs, r.length = te.sz) (hb : n * te.sz ≤ 16777216) : ∃ out : Array Value, (Instr.buildSlice t n (ps.toArray.map fun (i, x) => (i, a.eval x))).run P w = .ok (.slice (some ⟨w.heap.size, 0, none⟩) n n) (w.alloc (.cells out e)) ∧ out.size = n * te.sz ∧
      ∀ (i j : Nat) (r : List Cell) (c : Cell), rs[i]? = some r → r[j]? = some c → ∃ v, out[i * te.sz + j]? = some v ∧ Rel Φ v c  := by
  have hu : P.underlying t = some (.slice e) := by have := (hT _ _ ht).kind; rw [hk] at this; exact this
  obtain ⟨i, hi, hisz, hib, z, hzz, hrel⟩ := (hT e te he).info
  have e2 : (ps.toArray.map fun (x : Nat × Operand) => (x.1, a.eval x.2)).toList = ps.map fun (i, x) => (i, a.eval x) := by simp
  have hz : (zeroValue e).run P w = .ok z w := by simp [zeroValue, typeInfo, hi, hzz]
  have hb' : ¬ (2 ^ 24 < n * te.sz) := by omega
  have main : ∀ (Z : Array Value), Z.size = n * te.sz → (∀ out, Instr.fill (fun i => some (i * te.sz, te.sz)) Z (ps.map fun (i, x) => (i, a.eval x)) = some out → (Instr.buildSlice t n (ps.toArray.map fun (i, x) => (i, a.eval x))).run P w = .ok (.slice (some ⟨w.heap.size, 0, none⟩) n n) (w.alloc (.cells out e))) →
      ∃ out : Array Value, (Instr.buildSlice t n (ps.toArray.map fun (i, x) => (i, a.eval x))).run P w = .ok (.slice (some ⟨w.heap.size, 0, none⟩) n n) (w.alloc (.cells out e)) ∧ out.size = n * te.sz ∧
        ∀ (i j : Nat) (r : List Cell) (c : Cell), rs[i]? = some r → r[j]? = some c → ∃ v, out[i * te.sz + j]? = some v ∧ Rel Φ v c := fun Z hZ hrun => by
    obtain ⟨out, k1, k2, _, k4⟩ := fillR_run hs (sz := te.sz) hx hrs (cells := Z) (by rw [hZ, hlen, Nat.zero_add])
    exact ⟨out, hrun out k1, by rw [k2, hZ], fun i j r c hi hj => by have := k4 i j r c hi hj; rwa [Nat.zero_add] at this⟩
  by_cases h0 : n * te.sz = 0
  · refine main ((Array.range (n * te.sz)).map ((#[] : Array Value)[· % (#[] : Array Value).size]!)) (by rw [Array.size_map, Array.size_range]) fun out k1 => ?_
    rw [h0] at k1
    simp only [Instr.buildSlice, Sem.run_bind, run_underlying hu, Result.andThen_ok, run_sizeOf hT he]
    rw [if_neg hb']
    simp only [h0, if_true, Sem.run_pure, Sem.run_bind, Result.andThen_ok]
    rw [e2, k1]
    rfl
  · refine main ((Array.range (n * te.sz)).map (z.cells[· % z.cells.size]!)) (by rw [Array.size_map, Array.size_range]) fun out k1 => ?_
    simp only [Instr.buildSlice, Sem.run_bind, run_underlying hu, Result.andThen_ok, run_sizeOf hT he]
    rw [if_neg hb']
    simp only [h0, if_false, Sem.run_pure, Sem.run_bind, Result.andThen_ok, hz]
    rw [e2, k1]
    rfl
theorem P_litD {o : Oper} {p : Prop} {t e n : Nat} {ps : List (Nat × Operand)} {rs : List (List Cell)} {ti te : TI} (ho : o.op = .buildSlice t n ps.toArray) (ht : T t = some ti) (hk : ti.kind = .slice e) (he : T e = some te)
    (hx : EvR A ps 0 rs) (hlen : rs.length = n) (hrs : ∀ r ∈ rs, r.length = te.sz) (hb : n * te.sz ≤ 16777216) : PureOp P G A o p (.pv (.one (.sl rs))) := fun Φ β a w hs hp => by
  obtain ⟨out, h1, h2, h3⟩ := lit_run hT hs ht hk he hx hlen hrs hb
  have hx1 : (execOp a.eval o).run P w = .ok (.value (.slice (some ⟨w.heap.size, 0, none⟩) n n)) (w.alloc (.cells out e)) := by
    have e3 : execOp a.eval o = (do pure (.value (← Instr.buildSlice t n (ps.toArray.map fun (i, x) => (i, a.eval x))))) := by simp only [execOp, ho]
    rw [e3, Sem.run_bind, h1]; rfl
  unfold Oper.wp
  rw [hx1]
  have hno : ∀ b c, Φ b = some c → b < w.heap.size := fun b c h => by
    obtain ⟨E, fz, hw⟩ := hs.fits b c h
    exact (Array.getElem?_eq_some_iff.1 hw).1
  have hold : ∀ b, b < w.heap.size → (w.alloc (.cells out e)).heap[b]? = w.heap[b]? := fun b hb => heap_alloc_old w _ hb
  refine ⟨_, fun c => if c = w.heap.size then some out else Φ c, rfl, ?_, fun b c h => ?_, fun b hb => ?_, fun b c h => ?_, ?_⟩
  · show Rel _ _ _
    refine .sl w.heap.size 0 n n te.sz rs (fun i j => (out[i * te.sz + j]?).getD undef) hlen (Nat.le_refl _) hrs (fun i j r c hi hj => ?_) (fun i j r c hi hj => ?_)
    · obtain ⟨v, q1, q2⟩ := h3 i j r c hi hj
      simp [q1]
    · obtain ⟨v, q1, q2⟩ := h3 i j r c hi hj
      rw [q1]
      refine q2.mono fun b c h => ?_
      have := hno b c h
      show (if b = w.heap.size then some out else Φ b) = some c
      rw [if_neg (by omega)]; exact h
  · have := hno b c h
    show (if b = w.heap.size then some out else Φ b) = some c
    rw [if_neg (by omega)]; exact h
  · show (if b = w.heap.size then some out else Φ b) = Φ b
    rw [if_neg (by omega)]
  · simp only at h
    split at h
    · rename_i e1; subst e1; cases h
      exact ⟨e, (0, 0), heap_alloc_new w _⟩
    · obtain ⟨E, fz, hw⟩ := hs.fits b c h
      exact ⟨E, fz, by rw [hold b (hno b c h)]; exact hw⟩
  · exact Below.alloc (Below.refl _ _) (Nat.le_refl _) _
end
section
variable {P : Program} {G : Ghost} {n0 : Nat} {env : List (Nat × (Prop × AV))} {bl : List (Nat × Blk)} {p : Prop} {dst : Option Nat} {ty : TypeId} {pos : String} {after : Array Edge} {gd : Option (Nat × Bool)} {T : TT} (hT : TOK P T)
include hT
theorem Q_litD {t e n : Nat} {ps : List (Nat × Operand)} {rs : List (List Cell)} {ti te : TI} (hx : EvR (St.mk n0 env bl) ps 0 rs) (ht : T t = some ti) (hk : ti.kind = .slice e) (he : T e = some te) (hlen : rs.length = n) (hrs : rs.all (fun r => Nat.beq r.length te.sz) = true)
    (hb : Nat.ble (n * te.sz) 16777216 = true) : PureOp P G (St.mk n0 env bl) ⟨dst, .buildSlice t n ps.toArray, ty, pos, after, gd⟩ p (.pv (.one (.sl rs))) :=
  P_litD hT rfl ht hk he hx hlen (fun r hr => Nat.eq_of_beq_eq_true (List.all_eq_true.1 hrs r hr)) (Nat.le_of_ble_eq_true hb)
end
end
section
open Go Go.RowKit
theorem wrap_u64' (n : Int) : IntKind.u64.wrap n = n % 18446744073709551616 := by simp [IntKind.wrap, IntKind.bits, IntKind.signed]
theorem wraps_u64' (n : Int) (h₀ : 0 ≤ n) (h₁ : n < 2 ^ 64) : IntKind.u64.wrap n = n := by rw [wrap_u64']; omega
theorem u64_and20 {n : Int} (h0 : 0 ≤ n) (h1 : n ≤ 18446744073709551615) : bits .and .u64 n 1048575 = n % 1048576 :=
  bits_mask .u64 64 (by decide) wraps_u64' 20 (by decide) n h0 (by omega)
theorem u64_orHi (i : Nat) {y x : Int} (hy0 : 0 ≤ y) (hy : y < 2 ^ i) (hx0 : 0 ≤ x) (hx : x % 2 ^ i = 0) (hx1 : x < 2 ^ 64) (hy1 : y < 2 ^ 64) : bits .or .u64 y x = y + x := by
  have h := bits_join .u64 64 (by decide) wraps_u64' i x y hx0 hx hx1 hy0 hy hy1
  obtain ⟨a, rfl⟩ := Int.eq_ofNat_of_zero_le hx0
  obtain ⟨b, rfl⟩ := Int.eq_ofNat_of_zero_le hy0
  have ha : a < 2 ^ 64 := by exact_mod_cast hx1
  have hb : b < 2 ^ 64 := by exact_mod_cast hy1
  rw [(bits_nat .u64 64 (by decide) wraps_u64' a b ha hb).2] at h
  rw [(bits_nat .u64 64 (by decide) wraps_u64' b a hb ha).2, Nat.or_comm, h]
  omega
theorem pw_two : ∀ i : Nat, pw i = 2 ^ (20 * i)
  | 0 => rfl
  | i + 1 => by rw [pw, pw_two i, show 20 * (i + 1) = 20 * i + 20 by omega, Int.pow_add]; omega
/-- d digits of 20 bits further up -/
theorem u64_or20 {i : Nat} {u d : Int} (hi : i ≤ 3) (hu : 0 ≤ u ∧ u < pw i) (hd : 0 ≤ d ∧ d < 1048576) (h3 : i = 3 → d ≤ 8) : bits .or .u64 u (IntKind.u64.wrap (d * 2 ^ min (20 * (i : Int)).toNat IntKind.u64.bits)) = u + pw i * d := by
  have e1 : min (20 * (i : Int)).toNat IntKind.u64.bits = 20 * i := by
    show min (20 * (i : Int)).toNat 64 = 20 * i
    omega
  have hc : i = 0 ∨ i = 1 ∨ i = 2 ∨ i = 3 := by omega
  have hb : pw i * d < 2 ^ 64 ∧ u < 2 ^ 64 := by
    rcases hc with rfl | rfl | rfl | rfl <;> simp only [pw] at hu ⊢ <;> omega
  have hp := pw_pos i
  have hm : 0 ≤ pw i * d := Int.mul_nonneg (by omega) hd.1
  rw [e1, ← pw_two, Int.mul_comm d, wraps_u64' _ hm hb.1]
  exact u64_orHi (20 * i) hu.1 (by rw [← pw_two]; exact hu.2) hm (by rw [← pw_two]; exact Int.mul_emod_right _ _) hb.1 hb.2
section
variable {P : Program} {G : Ghost} {n0 : Nat} {env : List (Nat × (Prop × AV))} {bl : List (Nat × Blk)} {p : Prop} {dst : Option Nat} {ty : TypeId} {pos : String} {after : Array Edge} {gd : Option (Nat × Bool)}
theorem Q_mask20u {xt yt : Nat} {x : Operand} {m : Int} (hx : Ev (St.mk n0 env bl) p x (.pv (.one (.int .u64 m)))) (hb : 0 ≤ m ∧ m ≤ 18446744073709551615) :
    PureOp P G (St.mk n0 env bl) ⟨dst, .binOp .and xt x (.const (.int .u64 1048575)) yt, ty, pos, after, gd⟩ p (.pv (.one (.int .u64 (m % 1048576)))) := P_bin (n := 1048575) rfl hx ⟨True, rfl, fun _ => trivial⟩ (by simp only [binI]; rw [u64_and20 hb.1 hb.2])
theorem Q_shr20u {xt yt : Nat} {x : Operand} {m : Int} (hx : Ev (St.mk n0 env bl) p x (.pv (.one (.int .u64 m)))) :
    PureOp P G (St.mk n0 env bl) ⟨dst, .binOp .shr xt x (.const (.int .u64 20)) yt, ty, pos, after, gd⟩ p (.pv (.one (.int .u64 (m / 1048576)))) := by
  have h := P_shr (P := P) (G := G) (o := ⟨dst, .binOp .shr xt x (.const (.int .u64 20)) yt, ty, pos, after, gd⟩) (n := 20) (yk := .u64) rfl hx ⟨True, rfl, fun _ => trivial⟩ (fun _ => by omega)
  rw [show m.fdiv (2 ^ min (20 : Int).toNat IntKind.u64.bits) = m / 1048576 from by
    show m.fdiv 1048576 = _
    exact Int.fdiv_eq_ediv_of_nonneg _ (by omega)] at h
  exact h
end
end
section
open Go Go.RowKit
section
variable {P : Program} {G : Ghost} {A : St} {T : TT} (hT : TOK P T)
include hT
end
section
variable {P : Program} {G : Ghost} {n0 : Nat} {env : List (Nat × (Prop × AV))} {bl : List (Nat × Blk)} {p : Prop} {dst : Option Nat} {ty : TypeId} {pos : String} {after : Array Edge} {gd : Option (Nat × Bool)} {T : TT} (hT : TOK P T)
include hT
end
end
end Lf
end
section
set_option linter.unusedVariables false
set_option linter.unusedSimpArgs false
set_option maxHeartbeats 8000000
set_option linter.unusedSectionVars false
namespace Go.Proofs.Ytjedkgogjehigaa
open Lf Go
attribute [local irreducible] PureOp EffOp Ev RG W Then InBlock Lf.Fin nth App InitE Pick SubE EvL EvD EvP EvR ResL Lf.Lex SubR SubBR EvC FinO FinM ResM ResD FinS val pw digs trimL
theorem okZ_neg {x : Int} (h : okZ x) : okZ (-x) := okZ.of (by have := h.lt; omega)
theorem cmpZ_ok (x y : Int) (hx : okZ x) (hy : okZ y) : ACalls Try.prog 39 [zB x, zB y] (.pv (cI (cmpI x y))) := by
  have h1 := right_yes hx
  have h2 := right_yes hy
  have l1 := num_len hx
  have l2 := num_len hy
  have h3 := cmp_ok (sgn x) (sgn y)
  have h4 := compare_ok (digs (mag x)) (digs (mag y)) (digs_norm _) (digs_norm _) (by omega) (by omega)
  rw [val_mag, val_mag] at h4
  have c1 := sgn_cases x
  have c2 := sgn_cases y
  by_cases hs : sgn x = sgn y
  · have e : cmpI x y = sgn x * cmpI (mag x) (mag y) ∧ -1 ≤ sgn x * cmpI (mag x) (mag y) ∧ sgn x * cmpI (mag x) (mag y) ≤ 1 := by
      unfold cmpI
      rcases c1 with h | h | h <;> rcases c2 with h' | h' | h' <;> rw [h.1, h'.1] at hs <;> first | (exfalso; omega) | (rw [h.1, h.2.2, h'.2.2]; repeat' split) <;> omega
    rw [e.1]
    refine ACalls.of_W (qs := [cI (sgn x * cmpI (mag x) (mag y))]) [4] 31 Try.func39 (by kernel_rfl) rfl rfl rfl fun G => ?_
    refine W.initA (hw := ?_)
    repeat' (first | ((first | apply U_ | (apply Ug_; exact rfl; exact rfl) | (apply Ugq_; exact rfl; exact rfl) | apply Lex.u | (apply Lex.g; exact rfl; exact rfl) | (apply Lex.gq; exact rfl; exact rfl)); (first | exact QX.B TYok | exact QCl (h1) | exact QCl (h2) | exact QCl (h3) | exact QCl (h4)); exact rfl) | refine SX.Box TYok (h := ?_) | refine SC ?_ | refine SG ?_ | (apply W.draw2 (id := 5) [0, 1, 0, 4, 0, 16, 60, 127, 255] [[2], [23], [2], [25], [3], [27], [26, 28], [24, 29], [30]] 9 [(23, 4), (24, 8388608), (25, 4), (26, 33554432), (27, 8), (28, 134217728), (29, 335544320), (30, 553648128), (4, 1073741824)] mixed (by kernel_rfl) rfl rfl) | (refine W.condA (ht := fun hb => ?_) (hf := fun hb => ?_) <;> (try simp at hb) <;> (try (exfalso; omega))))
    exact Fin.ret ResL.auto
  · have e : cmpI (sgn x) (sgn y) = cmpI x y := by
      unfold cmpI
      rcases c1 with h | h | h <;> rcases c2 with h' | h' | h' <;> rw [h.1, h'.1] at hs <;> first | (exfalso; omega) | (rw [h.1, h'.1]; repeat' split) <;> omega
    rw [e] at h3
    refine ACalls.of_W (qs := [cI (cmpI x y)]) [4] 31 Try.func39 (by kernel_rfl) rfl rfl rfl fun G => ?_
    refine W.initA (hw := ?_)
    repeat' (first | ((first | apply U_ | (apply Ug_; exact rfl; exact rfl) | (apply Ugq_; exact rfl; exact rfl) | apply Lex.u | (apply Lex.g; exact rfl; exact rfl) | (apply Lex.gq; exact rfl; exact rfl)); (first | exact QX.B TYok | exact QCl (h1) | exact QCl (h2) | exact QCl (h3) | exact QCl (h4)); exact rfl) | refine SX.Box TYok (h := ?_) | refine SC ?_ | refine SG ?_ | (apply W.draw2 (id := 5) [0, 1, 0, 4, 0, 16, 60, 127, 255] [[2], [23], [2], [25], [3], [27], [26, 28], [24, 29], [30]] 9 [(23, 4), (24, 8388608), (25, 4), (26, 33554432), (27, 8), (28, 134217728), (29, 335544320), (30, 553648128), (4, 1073741824)] mixed (by kernel_rfl) rfl rfl) | (refine W.condA (ht := fun hb => ?_) (hf := fun hb => ?_) <;> (try simp at hb) <;> (try (exfalso; omega))))
    exact Fin.ret ResL.auto
theorem divZ_ok (x y : Int) (hx : okZ x) (hy : okZ y) (h0 : y ≠ 0) : ACalls Try.prog 38 [zB x, zB y] (.tup [zB (quoZ x y), zB (remZ x y), cI 0]) := by
  have h1 := right_yes hx
  have h2 := right_yes hy
  have l1 := num_len hx
  have l2 := num_len hy
  have hs := mul_sgn x y
  have c1 := sgn_cases x
  have c2 := sgn_cases y
  have mx := mag_nn x
  have my : 0 < mag y := by omega
  have h3 := div_ok (digs (mag x)) (digs (mag y)) (digs_norm _) (digs_norm _) (by omega) (by omega) (fun e => by rw [digs_nil (by omega)] at e; omega)
  rw [val_mag, val_mag] at h3
  have hq := Int.ediv_nonneg mx (show 0 ≤ mag y by omega)
  have hq2 : mag x / mag y ≤ mag x := Int.ediv_le_self _ mx
  have hr := Int.emod_nonneg (mag x) (show mag y ≠ 0 by omega)
  have hr2 := Int.emod_lt_of_pos (mag x) my
  have hm := Int.emod_add_mul_ediv (mag x) (mag y)
  have lq := digs_mono hq hq2
  have lr := digs_mono hr (show mag x % mag y ≤ mag y by omega)
  generalize mag x / mag y = q at *
  generalize mag x % mag y = r at *
  have hr0 : (digs r).length = 0 ↔ r = 0 := by rw [List.length_eq_zero_iff, digs_nil hr]
  by_cases hc : sgn x * sgn y < 0 ∧ 0 < r
  · have hne : 0 < (digs r).length := by omega
    have hxy : (x < 0 ∧ 0 < y) ∨ (0 < x ∧ y < 0) := by
      rcases c1 with h | h | h <;> rcases c2 with h' | h' | h' <;> rw [h.1, h'.1] at hc <;> first | (exfalso; omega) | omega
    have h4 := add_ok (digs q) [1] (digs_norm _).dig (Dig.cons (by omega) Dig.nil) (by omega) (by simp)
    rw [val_digs hq, val_one] at h4
    have h5 := sub_ok (digs (mag y)) (digs r) (digs_norm _).dig (digs_norm _).dig (by omega) lr (by rw [val_mag, val_digs hr]; omega)
    rw [val_mag, val_digs hr] at h5
    have l6 := digs_mono (show 0 ≤ mag y - r by omega) (show mag y - r ≤ mag y by omega)
    have l7 : (digs (q + 1)).length ≤ 100 := (digs_len (by omega)).2 (by
      have := hx; unfold okZ at this
      have := pw_lt (show 60 < 100 by omega); omega)
    obtain ⟨u1, u2⟩ := quo_uniq (x := x) (q := -(q + 1)) (r := sgn y * (mag y - r)) h0 (by
        rcases hxy with h | h
        · have e1 : mag x = -x := by omega
          have e2 : mag y = y := by omega
          have e3 : sgn y = 1 := by omega
          rw [e3, e2]; rw [e1, e2] at hm; grind
        · have e1 : mag x = x := by omega
          have e2 : mag y = -y := by omega
          have e3 : sgn y = -1 := by omega
          rw [e3, e2]; rw [e1, e2] at hm; grind)
      (fun hp => by rw [show sgn y = 1 by omega]; omega) (fun hp => by rw [show sgn y = -1 by omega]; omega)
    rw [← u1, ← u2]
    have h6 := signed_ok (-1) (digs (q + 1)) (digs_norm _).dig (by omega) (-(q + 1)) (.inr (.inl rfl)) (by rw [val_digs (by omega)]; omega)
    have h7 := signed_ok (sgn y) (digs (mag y - r)) (digs_norm _).dig (by omega) (sgn y * (mag y - r)) (by omega) (by rw [val_digs (by omega)])
    generalize sgn y * (mag y - r) = z2 at *
    generalize -(q + 1) = z1 at *
    refine ACalls.of_M TYok (qs := [zB z1, zB z2, cI 0]) [.cell 4 38, .cell 5 38, .tmp 6] 67 Try.func38 (by kernel_rfl) rfl rfl rfl fun G => ?_
    refine W.initA (hw := ?_)
    repeat' (first | ((first | apply U_ | (apply Ug_; exact rfl; exact rfl) | (apply Ugq_; exact rfl; exact rfl) | apply Lex.u | (apply Lex.g; exact rfl; exact rfl) | (apply Lex.gq; exact rfl; exact rfl)); (first | (apply Q_litD TYok; (repeat (first | exact EvR.nil | apply EvR.cons Ev.auto)); exact rfl; exact rfl; exact rfl; exact rfl; exact rfl; exact rfl) | exact QX.B TYok | exact QX.Len TYok | exact QX.Ext TYok | exact QX.Build TYok | exact QCl (h1) | exact QCl (h2) | exact QCd (h3) | exact QCd (h5) | exact QCd (h6) | exact QCd (h7) | exact QCd (h4)); exact rfl) | refine SX.Alloc TYok (h := ?_) | refine SX.Store TYok (h := ?_) | refine SX.Lit TYok (h := ?_) | refine SX.Box TYok (h := ?_) | refine SC ?_ | (apply S_isnil TYok; exact rfl; exact rfl; exact rfl; exact Ev.auto; intro bn hnil) | refine SG ?_ | (apply W.draw2 (id := 7) [0, 0, 3, 7, 0, 16, 0, 64, 0, 463, 1023, 2047, 4095, 8191] [[7], [], [45, 46], [47], [3], [49], [3], [51], [8], [52, 53]] 10 [(45, 128), (46, 0), (47, 105553116266496), (48, 140737488355328), (49, 8), (50, 562949953421312), (51, 8), (52, 2251799813685248), (53, 256), (54, 13510798882111488)] mixed (by kernel_rfl) rfl rfl) | (apply W.draw2 (id := 8) [0, 1, 0, 4, 15, 0, 63, 0, 128, 0, 1023, 2047, 4095, 8191] [[2], [56], [3], [58], [57, 59], [7], [60, 61], [2], [63], [8], [64, 65]] 11 [(56, 4), (57, 72057594037927936), (58, 8), (59, 288230376151711744), (60, 720575940379279360), (61, 128), (62, 3458764513820540928), (63, 4), (64, 9223372036854775808), (65, 256), (66, 55340232221128654848)] mixed (by kernel_rfl) rfl rfl) | (refine W.condA (ht := fun hb => ?_) (hf := fun hb => ?_) <;> (try simp at hb) <;> (try (exfalso; omega))))
    · exact FinM.ret ResM.auto
    · exact absurd (hb hc.1) (fun e => by rw [e] at hne; simp at hne)
  · have hcc : ¬ (sgn x * sgn y < 0 ∧ 0 < (digs r).length) := by omega
    have hxy : (x = 0) ∨ (0 < x ∧ 0 < y) ∨ (x < 0 ∧ y < 0) ∨ r = 0 := by
      by_cases hr' : r = 0
      · exact .inr (.inr (.inr hr'))
      · have hc2 : ¬ sgn x * sgn y < 0 := fun q => hc ⟨q, by omega⟩
        rcases c1 with h | h | h
        · rcases c2 with h' | h' | h'
          · omega
          · omega
          · rw [h.1, h'.1] at hc2; exact absurd (by decide) hc2
        · exact .inl h.2.1
        · rcases c2 with h' | h' | h'
          · rw [h.1, h'.1] at hc2; exact absurd (by decide) hc2
          · omega
          · omega
    have hq0 : x = 0 → q = 0 := fun h => by
      have : mag x = 0 := by omega
      omega
    have hsm : sgn x * sgn y = 1 ∨ sgn x * sgn y = -1 ∨ q = 0 := by
      rcases c1 with h | h | h
      · rcases c2 with h' | h' | h'
        · rw [h.1, h'.1]; exact .inl rfl
        · exact absurd h'.2.1 h0
        · rw [h.1, h'.1]; exact .inr (.inl rfl)
      · exact .inr (.inr (hq0 h.2.1))
      · rcases c2 with h' | h' | h'
        · rw [h.1, h'.1]; exact .inr (.inl rfl)
        · exact absurd h'.2.1 h0
        · rw [h.1, h'.1]; exact .inl rfl
    have hsx : sgn x = 1 ∨ sgn x = -1 ∨ r = 0 := by
      rcases c1 with h | h | h
      · exact .inr (.inl h.1)
      · have e := hq0 h.2.1
        rw [e, Int.mul_zero] at hm
        exact .inr (.inr (by omega))
      · exact .inl h.1
    obtain ⟨u1, u2⟩ := quo_uniq (x := x) (q := sgn x * sgn y * q) (r := sgn x * r) h0 (by
        have e1 := sgn_mag x
        have e2 := sgn_mag y
        have e3 : sgn y * sgn y = 1 := by
          rcases c2 with h | h | h
          · rw [h.1]; rfl
          · exact absurd h.2.1 h0
          · rw [h.1]; rfl
        generalize sgn x = sx at *
        generalize sgn y = sy at *
        generalize mag x = px at *
        generalize mag y = py at *
        subst e1; subst e2
        rw [← hm]
        have e4 : sy * py * (sx * sy * q) = sx * (py * q) * (sy * sy) := by grind
        rw [e4, e3]; grind)
      (fun hp => by
        rcases hxy with h | h | h | h
        · rw [show sgn x = 0 by omega]; omega
        · rw [show sgn x = 1 by omega]; omega
        · omega
        · rw [h, Int.mul_zero]; omega)
      (fun hp => by
        rcases hxy with h | h | h | h
        · rw [show sgn x = 0 by omega]; omega
        · omega
        · rw [show sgn x = -1 by omega]; omega
        · rw [h, Int.mul_zero]; omega)
    rw [← u1, ← u2]
    have h6 := signed_ok (sgn x * sgn y) (digs q) (digs_norm _).dig (by omega) (sgn x * sgn y * q) (by rw [val_digs hq]; exact hsm) (by rw [val_digs hq])
    have h7 := signed_ok (sgn x) (digs r) (digs_norm _).dig (by omega) (sgn x * r) (by rw [val_digs hr]; exact hsx) (by rw [val_digs hr])
    generalize sgn x * sgn y * q = z1 at *
    generalize sgn x * r = z2 at *
    refine ACalls.of_M TYok (qs := [zB z1, zB z2, cI 0]) [.cell 4 38, .cell 5 38, .tmp 6] 67 Try.func38 (by kernel_rfl) rfl rfl rfl fun G => ?_
    refine W.initA (hw := ?_)
    repeat' (first | ((first | apply U_ | (apply Ug_; exact rfl; exact rfl) | (apply Ugq_; exact rfl; exact rfl) | apply Lex.u | (apply Lex.g; exact rfl; exact rfl) | (apply Lex.gq; exact rfl; exact rfl)); (first | exact QX.B TYok | exact QX.Len TYok | exact QX.Ext TYok | exact QX.Build TYok | exact QCl (h1) | exact QCl (h2) | exact QCd (h3) | exact QCd (h6) | exact QCd (h7)); exact rfl) | refine SX.Alloc TYok (h := ?_) | refine SX.Store TYok (h := ?_) | refine SX.Lit TYok (h := ?_) | refine SX.Box TYok (h := ?_) | refine SC ?_ | (apply S_isnil TYok; exact rfl; exact rfl; exact rfl; exact Ev.auto; intro bn hnil) | refine SG ?_ | (apply W.draw2 (id := 8) [0, 1, 0, 4, 15, 0, 63, 0, 128, 0, 1023, 2047, 4095, 8191] [[2], [56], [3], [58], [57, 59], [7], [60, 61], [2], [63], [8], [64, 65]] 11 [(56, 4), (57, 72057594037927936), (58, 8), (59, 288230376151711744), (60, 720575940379279360), (61, 128), (62, 3458764513820540928), (63, 4), (64, 9223372036854775808), (65, 256), (66, 55340232221128654848)] mixed (by kernel_rfl) rfl rfl) | (refine W.drawA (id := 7) (L := [false, false, false, false, false, false, false, false, false, false, false, false, false, false]) mixed rfl ?_) | exact RAll.nil | (refine RAll.cons rfl ?_ ?_) | (refine RA.step (L := [false, false, false, false, false, false, false, false, false, false, false, false, false, false]) (i := 0) (is := [1, 4, 6, 8]) (by kernel_rfl) ?_) | (refine RA.step (L := [false, false, false, false, false, false, false, false, true, false, false, false, false, false]) (i := 0) (is := [1, 4, 6]) (by kernel_rfl) ?_) | (refine RA.step (L := [false, false, false, false, false, false, true, false, true, false, false, false, false, false]) (i := 0) (is := [1, 4, 7]) (by kernel_rfl) ?_) | (refine RA.step (L := [false, false, false, false, false, false, true, true, true, false, false, false, false, false]) (i := 0) (is := [1, 4]) (by kernel_rfl) ?_) | (refine RA.step (L := [false, false, false, false, true, false, true, true, true, false, false, false, false, false]) (i := 0) (is := [1, 5]) (by kernel_rfl) ?_) | (refine RA.step (L := [false, false, false, false, true, true, true, true, true, false, false, false, false, false]) (i := 0) (is := [1]) (by kernel_rfl) ?_) | (refine RA.step (L := [false, true, false, false, true, true, true, true, true, false, false, false, false, false]) (i := 0) (is := []) (by kernel_rfl) ?_) | (refine RA.step (L := [true, true, false, false, true, true, true, true, true, false, false, false, false, false]) (i := 2) (is := []) (by kernel_rfl) ?_) | (refine RA.step (L := [true, true, true, false, true, true, true, true, true, false, false, false, false, false]) (i := 3) (is := []) (by kernel_rfl) ?_) | (refine RA.step (L := [true, true, true, true, true, true, true, true, true, false, false, false, false, false]) (i := 9) (is := []) (by kernel_rfl) ?_) | (refine RA.step (L := [true, true, true, true, true, true, true, true, true, true, false, false, false, false]) (i := 10) (is := []) (by kernel_rfl) ?_) | (refine RA.step (L := [true, true, true, true, true, true, true, true, true, true, true, false, false, false]) (i := 11) (is := []) (by kernel_rfl) ?_) | (refine RA.step (L := [true, true, true, true, true, true, true, true, true, true, true, true, false, false]) (i := 12) (is := []) (by kernel_rfl) ?_) | (refine RA.step (L := [true, true, true, true, true, true, true, true, true, true, true, true, true, false]) (i := 13) (is := []) (by kernel_rfl) ?_) | (refine RA.done (L := [true, true, true, true, true, true, true, true, true, true, true, true, true, true]) (by kernel_rfl) ?_) | (refine RA.step (L := [true, false, false, false, true, true, true, true, true, false, false, false, false, false]) (i := 1) (is := []) (by kernel_rfl) ?_) | (refine RA.step (L := [false, true, false, false, true, false, true, true, true, false, false, false, false, false]) (i := 0) (is := [5]) (by kernel_rfl) ?_) | (refine RA.step (L := [true, true, false, false, true, false, true, true, true, false, false, false, false, false]) (i := 2) (is := [5]) (by kernel_rfl) ?_) | (refine RA.step (L := [true, true, true, false, true, false, true, true, true, false, false, false, false, false]) (i := 3) (is := [5]) (by kernel_rfl) ?_) | (refine RA.step (L := [true, true, true, true, true, false, true, true, true, false, false, false, false, false]) (i := 5) (is := [9]) (by kernel_rfl) ?_) | (refine RA.step (L := [true, true, true, true, true, false, true, true, true, true, false, false, false, false]) (i := 5) (is := []) (by kernel_rfl) ?_) | (refine RA.step (L := [true, false, false, false, true, false, true, true, true, false, false, false, false, false]) (i := 1) (is := [5]) (by kernel_rfl) ?_) | (refine RA.step (L := [false, true, false, false, false, false, true, true, true, false, false, false, false, false]) (i := 0) (is := [4]) (by kernel_rfl) ?_) | (refine RA.step (L := [true, true, false, false, false, false, true, true, true, false, false, false, false, false]) (i := 2) (is := [4]) (by kernel_rfl) ?_) | (refine RA.step (L := [true, true, true, false, false, false, true, true, true, false, false, false, false, false]) (i := 3) (is := [4]) (by kernel_rfl) ?_) | (refine RA.step (L := [true, true, true, true, false, false, true, true, true, false, false, false, false, false]) (i := 4) (is := [9]) (by kernel_rfl) ?_) | (refine RA.step (L := [true, true, true, true, false, false, true, true, true, true, false, false, false, false]) (i := 4) (is := []) (by kernel_rfl) ?_) | (refine RA.step (L := [true, false, false, false, false, false, true, true, true, false, false, false, false, false]) (i := 1) (is := [4]) (by kernel_rfl) ?_) | (refine RA.step (L := [false, false, false, false, true, false, true, false, true, false, false, false, false, false]) (i := 0) (is := [1, 5, 7]) (by kernel_rfl) ?_) | (refine RA.step (L := [false, false, false, false, true, true, true, false, true, false, false, false, false, false]) (i := 0) (is := [1, 7]) (by kernel_rfl) ?_) | (refine RA.step (L := [false, true, false, false, true, true, true, false, true, false, false, false, false, false]) (i := 0) (is := [7]) (by kernel_rfl) ?_) | (refine RA.step (L := [true, true, false, false, true, true, true, false, true, false, false, false, false, false]) (i := 2) (is := [7]) (by kernel_rfl) ?_) | (refine RA.step (L := [true, true, true, false, true, true, true, false, true, false, false, false, false, false]) (i := 3) (is := [7]) (by kernel_rfl) ?_) | (refine RA.step (L := [true, true, true, true, true, true, true, false, true, false, false, false, false, false]) (i := 7) (is := []) (by kernel_rfl) ?_) | (refine RA.step (L := [true, false, false, false, true, true, true, false, true, false, false, false, false, false]) (i := 1) (is := [7]) (by kernel_rfl) ?_) | (refine RA.step (L := [false, true, false, false, true, false, true, false, true, false, false, false, false, false]) (i := 0) (is := [5, 7]) (by kernel_rfl) ?_) | (refine RA.step (L := [true, true, false, false, true, false, true, false, true, false, false, false, false, false]) (i := 2) (is := [5, 7]) (by kernel_rfl) ?_) | (refine RA.step (L := [true, true, true, false, true, false, true, false, true, false, false, false, false, false]) (i := 3) (is := [5, 7]) (by kernel_rfl) ?_) | (refine RA.step (L := [true, true, true, true, true, false, true, false, true, false, false, false, false, false]) (i := 5) (is := [7]) (by kernel_rfl) ?_) | (refine RA.step (L := [true, false, false, false, true, false, true, false, true, false, false, false, false, false]) (i := 1) (is := [5, 7]) (by kernel_rfl) ?_) | (refine RA.step (L := [false, true, false, false, false, false, true, false, true, false, false, false, false, false]) (i := 0) (is := [4, 7]) (by kernel_rfl) ?_) | (refine RA.step (L := [true, true, false, false, false, false, true, false, true, false, false, false, false, false]) (i := 2) (is := [4, 7]) (by kernel_rfl) ?_) | (refine RA.step (L := [true, true, true, false, false, false, true, false, true, false, false, false, false, false]) (i := 3) (is := [4, 7]) (by kernel_rfl) ?_) | (refine RA.step (L := [true, true, true, true, false, false, true, false, true, false, false, false, false, false]) (i := 4) (is := [7]) (by kernel_rfl) ?_) | (refine RA.step (L := [true, false, false, false, false, false, true, false, true, false, false, false, false, false]) (i := 1) (is := [4, 7]) (by kernel_rfl) ?_) | (refine RA.step (L := [false, false, false, false, true, false, false, false, true, false, false, false, false, false]) (i := 0) (is := [1, 5, 6]) (by kernel_rfl) ?_) | (refine RA.step (L := [false, false, false, false, true, true, false, false, true, false, false, false, false, false]) (i := 0) (is := [1, 6]) (by kernel_rfl) ?_) | (refine RA.step (L := [false, true, false, false, true, true, false, false, true, false, false, false, false, false]) (i := 0) (is := [6]) (by kernel_rfl) ?_) | (refine RA.step (L := [true, true, false, false, true, true, false, false, true, false, false, false, false, false]) (i := 2) (is := [6]) (by kernel_rfl) ?_) | (refine RA.step (L := [true, true, true, false, true, true, false, false, true, false, false, false, false, false]) (i := 3) (is := [6]) (by kernel_rfl) ?_) | (refine RA.step (L := [true, true, true, true, true, true, false, false, true, false, false, false, false, false]) (i := 6) (is := []) (by kernel_rfl) ?_) | (refine RA.step (L := [true, false, false, false, true, true, false, false, true, false, false, false, false, false]) (i := 1) (is := [6]) (by kernel_rfl) ?_) | (refine RA.step (L := [false, true, false, false, true, false, false, false, true, false, false, false, false, false]) (i := 0) (is := [5, 6]) (by kernel_rfl) ?_) | (refine RA.step (L := [true, true, false, false, true, false, false, false, true, false, false, false, false, false]) (i := 2) (is := [5, 6]) (by kernel_rfl) ?_) | (refine RA.step (L := [true, true, true, false, true, false, false, false, true, false, false, false, false, false]) (i := 3) (is := [5, 6]) (by kernel_rfl) ?_) | (refine RA.step (L := [true, true, true, true, true, false, false, false, true, false, false, false, false, false]) (i := 5) (is := [6]) (by kernel_rfl) ?_) | (refine RA.step (L := [true, false, false, false, true, false, false, false, true, false, false, false, false, false]) (i := 1) (is := [5, 6]) (by kernel_rfl) ?_) | (refine RA.step (L := [false, true, false, false, false, false, false, false, true, false, false, false, false, false]) (i := 0) (is := [4, 6]) (by kernel_rfl) ?_) | (refine RA.step (L := [true, true, false, false, false, false, false, false, true, false, false, false, false, false]) (i := 2) (is := [4, 6]) (by kernel_rfl) ?_) | (refine RA.step (L := [true, true, true, false, false, false, false, false, true, false, false, false, false, false]) (i := 3) (is := [4, 6]) (by kernel_rfl) ?_) | (refine RA.step (L := [true, true, true, true, false, false, false, false, true, false, false, false, false, false]) (i := 4) (is := [6]) (by kernel_rfl) ?_) | (refine RA.step (L := [true, false, false, false, false, false, false, false, true, false, false, false, false, false]) (i := 1) (is := [4, 6]) (by kernel_rfl) ?_) | (refine RA.step (L := [false, false, false, false, false, false, true, false, false, false, false, false, false, false]) (i := 0) (is := [1, 4, 7, 8]) (by kernel_rfl) ?_) | (refine RA.step (L := [false, false, false, false, false, false, true, true, false, false, false, false, false, false]) (i := 0) (is := [1, 4, 8]) (by kernel_rfl) ?_) | (refine RA.step (L := [false, false, false, false, true, false, true, true, false, false, false, false, false, false]) (i := 0) (is := [1, 5, 8]) (by kernel_rfl) ?_) | (refine RA.step (L := [false, false, false, false, true, true, true, true, false, false, false, false, false, false]) (i := 0) (is := [1, 8]) (by kernel_rfl) ?_) | (refine RA.step (L := [false, true, false, false, true, true, true, true, false, false, false, false, false, false]) (i := 0) (is := [8]) (by kernel_rfl) ?_) | (refine RA.step (L := [true, true, false, false, true, true, true, true, false, false, false, false, false, false]) (i := 2) (is := [8]) (by kernel_rfl) ?_) | (refine RA.step (L := [true, true, true, false, true, true, true, true, false, false, false, false, false, false]) (i := 3) (is := [8]) (by kernel_rfl) ?_) | (refine RA.step (L := [true, true, true, true, true, true, true, true, false, false, false, false, false, false]) (i := 8) (is := []) (by kernel_rfl) ?_) | (refine RA.step (L := [true, false, false, false, true, true, true, true, false, false, false, false, false, false]) (i := 1) (is := [8]) (by kernel_rfl) ?_) | (refine RA.step (L := [false, true, false, false, true, false, true, true, false, false, false, false, false, false]) (i := 0) (is := [5, 8]) (by kernel_rfl) ?_) | (refine RA.step (L := [true, true, false, false, true, false, true, true, false, false, false, false, false, false]) (i := 2) (is := [5, 8]) (by kernel_rfl) ?_) | (refine RA.step (L := [true, true, true, false, true, false, true, true, false, false, false, false, false, false]) (i := 3) (is := [5, 8]) (by kernel_rfl) ?_) | (refine RA.step (L := [true, true, true, true, true, false, true, true, false, false, false, false, false, false]) (i := 5) (is := [8]) (by kernel_rfl) ?_) | (refine RA.step (L := [true, false, false, false, true, false, true, true, false, false, false, false, false, false]) (i := 1) (is := [5, 8]) (by kernel_rfl) ?_) | (refine RA.step (L := [false, true, false, false, false, false, true, true, false, false, false, false, false, false]) (i := 0) (is := [4, 8]) (by kernel_rfl) ?_) | (refine RA.step (L := [true, true, false, false, false, false, true, true, false, false, false, false, false, false]) (i := 2) (is := [4, 8]) (by kernel_rfl) ?_) | (refine RA.step (L := [true, true, true, false, false, false, true, true, false, false, false, false, false, false]) (i := 3) (is := [4, 8]) (by kernel_rfl) ?_) | (refine RA.step (L := [true, true, true, true, false, false, true, true, false, false, false, false, false, false]) (i := 4) (is := [8]) (by kernel_rfl) ?_) | (refine RA.step (L := [true, false, false, false, false, false, true, true, false, false, false, false, false, false]) (i := 1) (is := [4, 8]) (by kernel_rfl) ?_) | (refine RA.step (L := [false, false, false, false, true, false, true, false, false, false, false, false, false, false]) (i := 0) (is := [1, 5, 7, 8]) (by kernel_rfl) ?_) | (refine RA.step (L := [false, false, false, false, true, true, true, false, false, false, false, false, false, false]) (i := 0) (is := [1, 7, 8]) (by kernel_rfl) ?_) | (refine RA.step (L := [false, true, false, false, true, true, true, false, false, false, false, false, false, false]) (i := 0) (is := [7, 8]) (by kernel_rfl) ?_) | (refine RA.step (L := [true, true, false, false, true, true, true, false, false, false, false, false, false, false]) (i := 2) (is := [7, 8]) (by kernel_rfl) ?_) | (refine RA.step (L := [true, true, true, false, true, true, true, false, false, false, false, false, false, false]) (i := 3) (is := [7, 8]) (by kernel_rfl) ?_) | (refine RA.step (L := [true, true, true, true, true, true, true, false, false, false, false, false, false, false]) (i := 7) (is := [8]) (by kernel_rfl) ?_) | (refine RA.step (L := [true, false, false, false, true, true, true, false, false, false, false, false, false, false]) (i := 1) (is := [7, 8]) (by kernel_rfl) ?_) | (refine RA.step (L := [false, true, false, false, true, false, true, false, false, false, false, false, false, false]) (i := 0) (is := [5, 7, 8]) (by kernel_rfl) ?_) | (refine RA.step (L := [true, true, false, false, true, false, true, false, false, false, false, false, false, false]) (i := 2) (is := [5, 7, 8]) (by kernel_rfl) ?_) | (refine RA.step (L := [true, true, true, false, true, false, true, false, false, false, false, false, false, false]) (i := 3) (is := [5, 7, 8]) (by kernel_rfl) ?_) | (refine RA.step (L := [true, true, true, true, true, false, true, false, false, false, false, false, false, false]) (i := 5) (is := [7, 8]) (by kernel_rfl) ?_) | (refine RA.step (L := [true, false, false, false, true, false, true, false, false, false, false, false, false, false]) (i := 1) (is := [5, 7, 8]) (by kernel_rfl) ?_) | (refine RA.step (L := [false, true, false, false, false, false, true, false, false, false, false, false, false, false]) (i := 0) (is := [4, 7, 8]) (by kernel_rfl) ?_) | (refine RA.step (L := [true, true, false, false, false, false, true, false, false, false, false, false, false, false]) (i := 2) (is := [4, 7, 8]) (by kernel_rfl) ?_) | (refine RA.step (L := [true, true, true, false, false, false, true, false, false, false, false, false, false, false]) (i := 3) (is := [4, 7, 8]) (by kernel_rfl) ?_) | (refine RA.step (L := [true, true, true, true, false, false, true, false, false, false, false, false, false, false]) (i := 4) (is := [7, 8]) (by kernel_rfl) ?_) | (refine RA.step (L := [true, false, false, false, false, false, true, false, false, false, false, false, false, false]) (i := 1) (is := [4, 7, 8]) (by kernel_rfl) ?_) | (refine RA.step (L := [false, false, false, false, true, false, false, false, false, false, false, false, false, false]) (i := 0) (is := [1, 5, 6, 8]) (by kernel_rfl) ?_) | (refine RA.step (L := [false, false, false, false, true, true, false, false, false, false, false, false, false, false]) (i := 0) (is := [1, 6, 8]) (by kernel_rfl) ?_) | (refine RA.step (L := [false, true, false, false, true, true, false, false, false, false, false, false, false, false]) (i := 0) (is := [6, 8]) (by kernel_rfl) ?_) | (refine RA.step (L := [true, true, false, false, true, true, false, false, false, false, false, false, false, false]) (i := 2) (is := [6, 8]) (by kernel_rfl) ?_) | (refine RA.step (L := [true, true, true, false, true, true, false, false, false, false, false, false, false, false]) (i := 3) (is := [6, 8]) (by kernel_rfl) ?_) | (refine RA.step (L := [true, true, true, true, true, true, false, false, false, false, false, false, false, false]) (i := 6) (is := [8]) (by kernel_rfl) ?_) | (refine RA.step (L := [true, false, false, false, true, true, false, false, false, false, false, false, false, false]) (i := 1) (is := [6, 8]) (by kernel_rfl) ?_) | (refine RA.step (L := [false, true, false, false, true, false, false, false, false, false, false, false, false, false]) (i := 0) (is := [5, 6, 8]) (by kernel_rfl) ?_) | (refine RA.step (L := [true, true, false, false, true, false, false, false, false, false, false, false, false, false]) (i := 2) (is := [5, 6, 8]) (by kernel_rfl) ?_) | (refine RA.step (L := [true, true, true, false, true, false, false, false, false, false, false, false, false, false]) (i := 3) (is := [5, 6, 8]) (by kernel_rfl) ?_) | (refine RA.step (L := [true, true, true, true, true, false, false, false, false, false, false, false, false, false]) (i := 5) (is := [6, 8]) (by kernel_rfl) ?_) | (refine RA.step (L := [true, false, false, false, true, false, false, false, false, false, false, false, false, false]) (i := 1) (is := [5, 6, 8]) (by kernel_rfl) ?_) | (refine RA.step (L := [false, true, false, false, false, false, false, false, false, false, false, false, false, false]) (i := 0) (is := [4, 6, 8]) (by kernel_rfl) ?_) | (refine RA.step (L := [true, true, false, false, false, false, false, false, false, false, false, false, false, false]) (i := 2) (is := [4, 6, 8]) (by kernel_rfl) ?_) | (refine RA.step (L := [true, true, true, false, false, false, false, false, false, false, false, false, false, false]) (i := 3) (is := [4, 6, 8]) (by kernel_rfl) ?_) | (refine RA.step (L := [true, true, true, true, false, false, false, false, false, false, false, false, false, false]) (i := 4) (is := [6, 8]) (by kernel_rfl) ?_) | (refine RA.step (L := [true, false, false, false, false, false, false, false, false, false, false, false, false, false]) (i := 1) (is := [4, 6, 8]) (by kernel_rfl) ?_) | (refine W.condA (ht := fun hb => ?_) (hf := fun hb => ?_) <;> (try simp at hb) <;> (try (exfalso; omega))))
    all_goals first
      | exact FinM.ret ResM.auto
      | (exfalso; apply hcc; exact ⟨hb.1, List.length_pos_iff.2 hb.2⟩)
theorem gcd_step {u v : Int} (hu : 0 ≤ u) (hv : 0 < v) : Int.gcd v (u % v) = Int.gcd u v := by
  obtain ⟨a, rfl⟩ := Int.eq_ofNat_of_zero_le hu
  obtain ⟨b, rfl⟩ := Int.eq_ofNat_of_zero_le (show 0 ≤ v by omega)
  rw [← Int.natCast_emod]
  show Nat.gcd b (a % b) = Nat.gcd a b
  rw [Nat.gcd_comm b, Nat.gcd_comm a, Nat.gcd_rec b a]
def gcdZ (x y : Int) : Int := (Int.gcd x y : Int)
theorem mag_abs (x : Int) : (mag x).natAbs = x.natAbs := by have := sgn_cases x; omega
theorem gcd_mag (x y : Int) : Int.gcd (mag x) (mag y) = Int.gcd x y := by
  show Nat.gcd _ _ = Nat.gcd _ _
  rw [mag_abs, mag_abs]
theorem gcd_lt {x y : Int} (hx : okZ x) (hy : okZ y) : okZ (gcdZ x y) := by
  have hl := hx.lt
  have hl' := hy.lt
  have h0 := pw_pos 60
  refine okZ.of ⟨by unfold gcdZ; omega, ?_⟩
  unfold gcdZ
  by_cases h : x = 0
  · subst h
    rw [Int.gcd_zero_left]; omega
  · have h1 : (Int.gcd x y) ≤ x.natAbs := Nat.le_of_dvd (by omega) (Nat.gcd_dvd_left _ _)
    omega
theorem gcdZ_ok (x y : Int) (hx : okZ x) (hy : okZ y) : ACalls Try.prog 36 [zB x, zB y] (.tup [zB (gcdZ x y), cI 0]) := by
  have h1 := right_yes hx
  have h2 := right_yes hy
  have l1 := num_len hx
  have l2 := num_len hy
  have hg := gcd_lt hx hy
  have hg0 : 0 ≤ gcdZ x y := by unfold gcdZ; omega
  have h3 := (clone_ok (digs (mag x)) (by omega)).data rfl
  have hgm : mag (gcdZ x y) = gcdZ x y := by have := sgn_cases (gcdZ x y); omega
  have h5 := checked_yes (gcdZ x y) (by have := num_len hg; omega)
  rw [show fullZ (gcdZ x y) = gcdZ x y from if_pos hg, show fullE (gcdZ x y) = 0 from if_pos hg] at h5
  refine ACalls.of_M TYok (qs := [zB (gcdZ x y), cI 0]) [.cell 4 38, .tmp 5] 44 Try.func36 (by kernel_rfl) rfl rfl rfl fun G => ?_
  refine W.initA (hw := ?_)
  repeat' (first | ((first | apply U_ | (apply Ug_; exact rfl; exact rfl) | (apply Ugq_; exact rfl; exact rfl) | apply Lex.u | (apply Lex.g; exact rfl; exact rfl) | (apply Lex.gq; exact rfl; exact rfl)); (first | exact QX.B TYok | exact QX.Len TYok | exact QX.Ext TYok | exact QX.Build TYok | exact QCl (h1) | exact QCl (h2) | exact QCd (h3)); exact rfl) | refine SX.Alloc TYok (h := ?_) | refine SX.Store TYok (h := ?_) | refine SX.Box TYok (h := ?_) | refine SC ?_ | refine SG ?_ | (apply W.draw2 (id := 3) [0, 1, 3, 0, 8, 7, 63] [[2], [22], [23], [3], [25], [24], [26]] 7 [(22, 4), (23, 4194304), (24, 8388608), (25, 8), (26, 33554432), (6, 16777216), (7, 67108864)] mixed (by kernel_rfl) rfl rfl) | (refine W.condA (ht := fun hb => ?_) (hf := fun hb => ?_) <;> (try simp at hb) <;> (try (exfalso; omega))))
  apply W.loopP (σ := Int × Int) 44 [4] (fun (u, v) => (0 ≤ u ∧ 0 ≤ v ∧ (Int.gcd u v : Int) = gcdZ x y ∧ u < pw 60 ∧ v < pw 60)) (fun (u, v) => [(6, (True, .pv (slI (digs u)))), (7, (True, .pv (slI (digs v))))]) (fun _ => [(4, ⟨38, 2, [[.int .i64 0, .slnil]]⟩)]) (fun (u, v) => v.toNat) ((mag x, mag y))
  case hp => repeat (first | exact Pick.nil | apply Pick.cons rfl)
  case h0 =>
    refine ⟨⟨mag_nn x, mag_nn y, by unfold gcdZ; rw [gcd_mag], hx, hy⟩, ?_⟩
    exact Le.auto
  case round =>
    rintro ⟨u, v⟩ ⟨g1, g2, g3, g4, g5⟩
    dsimp only at g1 g2 g3 g4 g5 ⊢
    have lu := (digs_len g1).2 g4
    have lv := (digs_len g2).2 g5
    have hv0 : (digs v).length = 0 ↔ v = 0 := by rw [List.length_eq_zero_iff, digs_nil g2]
    apply W.norm (by repeat (first | exact App.nil | apply App.cons))
    by_cases hv : v = 0
    · have hlv : (digs v).length = 0 := hv0.2 hv
      have hug : u = gcdZ x y := by rw [hv, Int.gcd_zero_right] at g3; omega
      have h6 := (clone_ok (digs u) (by omega)).data rfl
      have h7 := signed_ok 1 (digs u) (digs_norm _).dig (by omega) (gcdZ x y) (.inl rfl) (by rw [val_digs g1]; omega)
      repeat' (first | ((first | apply U_ | (apply Ug_; exact rfl; exact rfl) | (apply Ugq_; exact rfl; exact rfl) | apply Lex.u | (apply Lex.g; exact rfl; exact rfl) | (apply Lex.gq; exact rfl; exact rfl)); (first | exact QX.B TYok | exact QX.Len TYok | exact QX.Ext TYok | exact QX.Build TYok | exact QCd (h6) | exact QCd (h7) | exact QCd (h5)); exact rfl) | refine SX.Alloc TYok (h := ?_) | refine SX.Store TYok (h := ?_) | refine SX.Box TYok (h := ?_) | refine SC ?_ | refine SG ?_ | (apply W.draw2 (id := 3) [0, 1, 3, 0, 8, 7, 63] [[2], [22], [23], [3], [25], [24], [26]] 7 [(22, 4), (23, 4194304), (24, 8388608), (25, 8), (26, 33554432), (6, 16777216), (7, 67108864)] mixed (by kernel_rfl) rfl rfl) | (refine W.condA (ht := fun hb => ?_) (hf := fun hb => ?_) <;> (try simp at hb) <;> (try (exfalso; omega))))
      exact FinM.ret ResM.auto
    · have hlv : (digs v).length ≠ 0 := fun e => hv (hv0.1 e)
      have h6 := div_ok (digs u) (digs v) (digs_norm _) (digs_norm _) (by omega) (by omega) (fun e => hlv (by rw [e]; rfl))
      rw [val_digs g1, val_digs g2] at h6
      have r0 := Int.emod_nonneg u hv
      have r1 := Int.emod_lt_of_pos u (show 0 < v by omega)
      have r2 := gcd_step g1 (show 0 < v by omega)
      repeat' (first | ((first | apply U_ | (apply Ug_; exact rfl; exact rfl) | (apply Ugq_; exact rfl; exact rfl) | apply Lex.u | (apply Lex.g; exact rfl; exact rfl) | (apply Lex.gq; exact rfl; exact rfl)); (first | exact QX.B TYok | exact QX.Len TYok | exact QX.Ext TYok | exact QX.Build TYok | exact QCd (h6)); exact rfl) | refine SX.Alloc TYok (h := ?_) | refine SX.Store TYok (h := ?_) | refine SX.Box TYok (h := ?_) | refine SC ?_ | refine SG ?_ | (apply W.draw2 (id := 3) [0, 1, 3, 0, 8, 7, 63] [[2], [22], [23], [3], [25], [24], [26]] 7 [(22, 4), (23, 4194304), (24, 8388608), (25, 8), (26, 33554432), (6, 16777216), (7, 67108864)] mixed (by kernel_rfl) rfl rfl) | (refine W.condA (ht := fun hb => ?_) (hf := fun hb => ?_) <;> (try simp at hb) <;> (try (exfalso; omega))))
      · refine ⟨(v, u % v), ⟨g2, r0, by rw [r2]; exact g3, g5, by omega⟩, ?_, by (try simp only); omega⟩
        exact Le.auto
      · exact absurd (by rw [hb]; rfl) hlv
end Go.Proofs.Ytjedkgogjehigaa
end
section
set_option linter.unusedVariables false
set_option linter.unusedSimpArgs false
set_option maxHeartbeats 8000000
set_option linter.unusedSectionVars false
namespace Go.Proofs.Ytjedkgogjehigaa
open Lf Go
attribute [local irreducible] PureOp EffOp Ev RG W Then InBlock Lf.Fin nth App InitE Pick SubE EvL EvD EvP EvR ResL Lf.Lex SubR SubBR EvC FinO FinM ResM ResD FinS val pw digs trimL
def i64B (x : Int) : Prop := -9223372036854775808 ≤ x ∧ x ≤ 9223372036854775807
structure OfI (x : Int) (l : List Int) (u : Int) : Prop where
  dig : Dig l
  u0 : 0 ≤ u
  eq : mag x = val l + pw l.length * u
theorem i64_mag {x : Int} (h : i64B x) : mag x ≤ 9223372036854775808 := by
  have := sgn_cases x
  unfold i64B at h; omega
theorem i64_ok {x : Int} (h : i64B x) : okZ x := by
  have h1 := i64_mag h
  have h2 : pw 4 = 1208925819614629174706176 := by simp [pw]
  have h3 := pw_mono (show 4 ≤ 60 by omega)
  unfold okZ; omega
theorem OfI.short {x u : Int} {l : List Int} (h : OfI x l u) (hx : i64B x) : (0 < u → l.length ≤ 3) ∧ u ≤ 9223372036854775808 := by
  have h1 := i64_mag hx
  have h2 := h.eq
  have h3 := val_lo h.dig
  have hp := pw_pos l.length
  have h5 : 1 * u ≤ pw l.length * u := Int.mul_le_mul_of_nonneg_right (by omega) h.u0
  refine ⟨fun hu => ?_, by omega⟩
  have h4 : pw l.length * 1 ≤ pw l.length * u := Int.mul_le_mul_of_nonneg_left (by omega) (by omega)
  have h6 : pw 4 = 1208925819614629174706176 := by simp [pw]
  have := pw_inj (show pw l.length < pw 4 by omega)
  omega
theorem OfI.step {x u : Int} {l : List Int} (h : OfI x l u) : OfI x (l ++ [u % 1048576]) (u / 1048576) := by
  have h1 := h.u0
  refine ⟨h.dig.app (Dig.cons (by omega) Dig.nil), by omega, ?_⟩
  have h2 := h.eq
  rw [val_app, val_one, List.length_append, List.length_singleton, pw_succ]
  have h3 := Int.emod_add_mul_ediv u 1048576
  generalize u % 1048576 = r at *
  generalize u / 1048576 = q at *
  subst h3
  rw [h2]; grind
theorem OfI.done {x : Int} {l : List Int} (h : OfI x l 0) : val l = mag x := by rw [h.eq]; omega
theorem ofZ_walk (x : Int) (hx : i64B x) (s : Int) (hs : (s = 1 ∧ 0 ≤ x) ∨ (s = -1 ∧ x < 0)) : ACalls Try.prog 66 [cI x] (.pv (zB x)) := by
  have hx' := hx
  unfold i64B at hx'
  have c1 := sgn_cases x
  have key : ∀ l : List Int, OfI x l 0 → l.length ≤ 10 → ACalls Try.prog 58 [cI s, slI l] (.pv (zB x)) := fun l hl hll =>
    signed_ok s l hl.dig (by omega) x (by omega) (by rw [hl.done]; rcases hs with h | h <;> rw [h.1] <;> omega)
  have e1 : 0 ≤ x → IntKind.u64.wrap x = mag x := fun h => by rw [wrap_u64']; omega
  have e2 : x < 0 → IntKind.u64.wrap (0 - IntKind.u64.wrap x) = mag x := fun h => by rw [wrap_u64', wrap_u64']; omega
  refine ACalls.of_M TYok (qs := [zB x]) [.cell 2 38] 25 Try.func66 (by kernel_rfl) rfl rfl rfl fun G => ?_
  refine W.initA (hw := ?_)
  repeat' (first | ((first | apply U_); (first | (apply Q_or20; exact Ev.auto; exact Ev.auto; (intro hg; first | omega | (simp; omega) | (simp at hg; simp; omega))) | (apply Q_shl20; exact Ev.auto; (intro hg; first | omega | (simp; omega) | (simp at hg; simp; omega))) | (apply Q_shr20; exact Ev.auto) | (apply Q_and1; exact Ev.auto) | (apply Q_mask20; exact Ev.auto) | exact QX.B TYok | exact QX.Conv TYok | (apply Q_negw; exact Ev.auto)); exact rfl) | refine SX.Alloc TYok (h := ?_) | refine SX.Store TYok (h := ?_) | refine SX.Lit TYok (h := ?_) | refine SX.App TYok (h := ?_) | refine SC ?_ | (refine W.condA (ht := fun hb => ?_) (hf := fun hb => ?_) <;> (try simp at hb) <;> (try (exfalso; omega))))
  · obtain rfl : s = -1 := by omega
    rw [e2 hb]
    have m0 := i64_mag hx
    have m1 := mag_nn x
    refine W.weaken (Le.nilOwn (t := 5) (n := 21) (E := 3) (sz := 1) rfl) ?_
    apply W.loopP (σ := Int × List Int) 25 [2] (fun (u, l) => OfI x l u ∧ l.length ≤ 4) (fun (u, l) => [(3, vI (-1)), (4, (True, .pv (.one (.int .u64 u)))), (5, (True, .slc 21))]) (fun (u, l) => [(2, ⟨38, 2, [[.int .i64 0, .slnil]]⟩), (21, ⟨3, 1, l.map Lf.encI⟩)]) (fun (u, l) => u.toNat) ((mag x, []))
    case hp => repeat (first | exact Pick.nil | apply Pick.cons rfl)
    case h0 =>
      refine ⟨⟨⟨Dig.nil, m1, by simp [val, pw]⟩, by simp⟩, ?_⟩
      exact Le.auto
    case round =>
      rintro ⟨u, l⟩ ⟨g1, gl⟩
      dsimp only at g1 gl ⊢
      have g2 := g1.short hx
      have g3 := g1.u0
      apply W.norm (by repeat (first | exact App.nil | apply App.cons))
      dsimp only [AV.ment, cond_false]
      by_cases hu : 0 < u
      · have g4 := g2.1 hu
        repeat' (first | ((first | apply U_); (first | (apply Q_shr20u; exact Ev.auto) | (apply Q_mask20u; exact Ev.auto; omega) | exact QX.B TYok | exact QX.Conv TYok); exact rfl) | refine SX.Alloc TYok (h := ?_) | refine SX.Store TYok (h := ?_) | refine SX.Lit TYok (h := ?_) | refine SX.App TYok (h := ?_) | refine SC ?_ | (refine W.condA (ht := fun hb => ?_) (hf := fun hb => ?_) <;> (try simp at hb) <;> (try (exfalso; omega))))
        refine ⟨(u / 1048576, l ++ [u % 1048576]), ⟨g1.step, by simp; omega⟩, ?_, by (try simp only); omega⟩
        exact Le.auto
      · obtain rfl : u = 0 := by omega
        have g5 : l.length ≤ 10 := by omega
        have k1 := key l g1 g5
        repeat' (first | (refine W.weaken (Le.freeze1 (m := 21) rfl) ?_; apply W.region (id := 8)) | ((first | apply U_); (first | exact QX.B TYok | exact QX.Conv TYok | exact QCd (k1)); exact rfl) | refine SX.Alloc TYok (h := ?_) | refine SX.Store TYok (h := ?_) | refine SX.Lit TYok (h := ?_) | refine SX.App TYok (h := ?_) | refine SC ?_ | (refine W.condA (ht := fun hb => ?_) (hf := fun hb => ?_) <;> (try simp at hb) <;> (try (exfalso; omega))))
        exact FinM.ret ResM.auto
  · obtain rfl : s = 1 := by omega
    rw [e1 hb]
    have m0 := i64_mag hx
    have m1 := mag_nn x
    refine W.weaken (Le.nilOwn (t := 5) (n := 21) (E := 3) (sz := 1) rfl) ?_
    apply W.loopP (σ := Int × List Int) 25 [2] (fun (u, l) => OfI x l u ∧ l.length ≤ 4) (fun (u, l) => [(3, vI (1)), (4, (True, .pv (.one (.int .u64 u)))), (5, (True, .slc 21))]) (fun (u, l) => [(2, ⟨38, 2, [[.int .i64 0, .slnil]]⟩), (21, ⟨3, 1, l.map Lf.encI⟩)]) (fun (u, l) => u.toNat) ((mag x, []))
    case hp => repeat (first | exact Pick.nil | apply Pick.cons rfl)
    case h0 =>
      refine ⟨⟨⟨Dig.nil, m1, by simp [val, pw]⟩, by simp⟩, ?_⟩
      exact Le.auto
    case round =>
      rintro ⟨u, l⟩ ⟨g1, gl⟩
      dsimp only at g1 gl ⊢
      have g2 := g1.short hx
      have g3 := g1.u0
      apply W.norm (by repeat (first | exact App.nil | apply App.cons))
      dsimp only [AV.ment, cond_false]
      by_cases hu : 0 < u
      · have g4 := g2.1 hu
        repeat' (first | ((first | apply U_); (first | (apply Q_shr20u; exact Ev.auto) | (apply Q_mask20u; exact Ev.auto; omega) | exact QX.B TYok | exact QX.Conv TYok); exact rfl) | refine SX.Alloc TYok (h := ?_) | refine SX.Store TYok (h := ?_) | refine SX.Lit TYok (h := ?_) | refine SX.App TYok (h := ?_) | refine SC ?_ | (refine W.condA (ht := fun hb => ?_) (hf := fun hb => ?_) <;> (try simp at hb) <;> (try (exfalso; omega))))
        refine ⟨(u / 1048576, l ++ [u % 1048576]), ⟨g1.step, by simp; omega⟩, ?_, by (try simp only); omega⟩
        exact Le.auto
      · obtain rfl : u = 0 := by omega
        have g5 : l.length ≤ 10 := by omega
        have k1 := key l g1 g5
        repeat' (first | (refine W.weaken (Le.freeze1 (m := 21) rfl) ?_; apply W.region (id := 8)) | ((first | apply U_); (first | exact QX.B TYok | exact QX.Conv TYok | exact QCd (k1)); exact rfl) | refine SX.Alloc TYok (h := ?_) | refine SX.Store TYok (h := ?_) | refine SX.Lit TYok (h := ?_) | refine SX.App TYok (h := ?_) | refine SC ?_ | (refine W.condA (ht := fun hb => ?_) (hf := fun hb => ?_) <;> (try simp at hb) <;> (try (exfalso; omega))))
        exact FinM.ret ResM.auto
theorem ofZ_ok (x : Int) (hx : i64B x) : ACalls Try.prog 66 [cI x] (.pv (zB x)) := by
  by_cases h : 0 ≤ x
  · exact ofZ_walk x hx 1 (.inl ⟨rfl, h⟩)
  · exact ofZ_walk x hx (-1) (.inr ⟨rfl, by omega⟩)
instance (x : Int) : Decidable (i64B x) := by unfold i64B; infer_instance
def intV (x : Int) : Int := if i64B x then x else 0
theorem val_short {l : List Int} {i : Nat} (dl : Dig l) (hi : i < l.length) (h4 : l.length ≤ 4) (h3 : i = 3 → nth l i ≤ 8) : 0 ≤ val (l.take i) + pw i * nth l i ∧ val (l.take i) + pw i * nth l i ≤ 18446744073709551615 := by
  have h1 := low_at dl (j := i) (by omega)
  have h2 := dl.nth hi
  have hm : 0 ≤ pw i * nth l i := Int.mul_nonneg (by have := pw_pos i; omega) h2.1
  have hc : i = 0 ∨ i = 1 ∨ i = 2 ∨ i = 3 := by omega
  refine ⟨by omega, ?_⟩
  rcases hc with rfl | rfl | rfl | rfl <;> simp only [pw] at h1 ⊢ <;> omega
theorem intZ_ok (x : Int) (hx : okZ x) : ACalls Try.prog 59 [zB x] (.tup [cI (intV x), cB (decide (i64B x))]) := by
  have h1 := right_yes hx
  have l1 := num_len hx
  have c1 := sgn_cases x
  have dl := digs_norm (mag x)
  have ev := val_mag x
  have m0 := mag_nn x
  have hno : ¬ mag x ≤ 9223372036854775808 → intV x = 0 ∧ decide (i64B x) = false := fun h => by
    have : ¬ i64B x := fun q => h (i64_mag q)
    exact ⟨if_neg this, decide_eq_false this⟩
  have hbig : ¬ (digs (mag x)).length ≤ 4 → ¬ mag x ≤ 9223372036854775808 := fun h q => h ((digs_len m0).2 (by
    have h6 : pw 4 = 1208925819614629174706176 := by simp [pw]
    omega))
  by_cases hl : (digs (mag x)).length ≤ 4
  case neg =>
    obtain ⟨e1, e2⟩ := hno (hbig hl)
    rw [e1, e2]
    refine ACalls.of_M TYok (qs := [cI 0, cB false]) [.tmp 2, .tmp 3] 59 Try.func59 (by kernel_rfl) rfl rfl rfl fun G => ?_
    refine W.initA (hw := ?_)
    repeat' (first | ((first | apply U_ | (apply Ug_; exact rfl; exact rfl) | (apply Ugq_; exact rfl; exact rfl)); (first | exact QX.B TYok | exact QX.Len TYok | exact QX.Idx TYok | exact QX.Conv TYok | exact QCl (h1)); exact rfl) | refine SX.Box TYok (h := ?_) | refine SC ?_ | (apply S_isnil TYok; exact rfl; exact rfl; exact rfl; exact Ev.auto; intro bn hnil) | refine SG ?_ | (refine W.condA (ht := fun hb => ?_) (hf := fun hb => ?_) <;> (try simp at hb) <;> (try (exfalso; omega))))
    exact FinM.ret ResM.auto
  refine ACalls.of_W (qs := [cI (intV x), cB (decide (i64B x))]) [2, 3] 59 Try.func59 (by kernel_rfl) rfl rfl rfl fun G => ?_
  refine W.initA (hw := ?_)
  repeat' (first | ((first | apply U_ | (apply Ug_; exact rfl; exact rfl) | (apply Ugq_; exact rfl; exact rfl)); (first | exact QX.B TYok | exact QX.Len TYok | exact QX.Idx TYok | exact QX.Conv TYok | exact QCl (h1)); exact rfl) | refine SX.Box TYok (h := ?_) | refine SC ?_ | (apply S_isnil TYok; exact rfl; exact rfl; exact rfl; exact Ev.auto; intro bn hnil) | refine SG ?_ | (refine W.condA (ht := fun hb => ?_) (hf := fun hb => ?_) <;> (try simp at hb) <;> (try (exfalso; omega))))
  apply W.loopP (σ := Nat × Int) 59 [1, 17, 18] (fun (i, u) => i ≤ (digs (mag x)).length ∧ u = val ((digs (mag x)).take i) ∧ 0 ≤ u ∧ u ≤ 18446744073709551615) (fun (i, u) => [(4, (True, .pv (.one (.int .u64 u)))), (19, vI i)]) (fun _ => [(1, ⟨38, 2, [[.int .i64 (sgn x), .sl ((digs (mag x)).map Lf.encI)]]⟩)]) (fun (i, u) => (digs (mag x)).length - i) ((0, 0))
  case hp => repeat (first | exact Pick.nil | apply Pick.cons rfl)
  case h0 =>
    refine ⟨⟨by simp, by simp [val], by omega, by omega⟩, ?_⟩
    exact Le.auto
  case round =>
    rintro ⟨i, u⟩ ⟨g1, g2, g3, g4⟩
    dsimp only at g1 g2 g3 g4 ⊢
    generalize hD : digs (mag x) = D at *
    apply W.norm (by repeat (first | exact App.nil | apply App.cons))
    by_cases hi : i < D.length
    · have d1 := dl.dig.nth hi
      by_cases h3 : i = 3 ∧ 8 < nth D i
      · have hn : ¬ mag x ≤ 9223372036854775808 := by
          rw [← ev, val_split D (i := i) (by omega), val_drop hi]
          have q1 := val_lo (dl.dig.take i)
          have q2 := val_lo (dl.dig.drop (i + 1))
          obtain ⟨rfl, q3⟩ := h3
          simp only [pw]
          omega
        obtain ⟨e1, e2⟩ := hno hn
        rw [e1, e2]
        repeat' (first | ((first | apply U_ | (apply Ug_; exact rfl; exact rfl) | (apply Ugq_; exact rfl; exact rfl)); (first | exact QX.B TYok | exact QX.Len TYok | exact QX.Idx TYok | exact QX.Conv TYok); exact rfl) | refine SX.Box TYok (h := ?_) | refine SC ?_ | (apply S_isnil TYok; exact rfl; exact rfl; exact rfl; exact Ev.auto; intro bn hnil) | refine SG ?_ | (refine W.condA (ht := fun hb => ?_) (hf := fun hb => ?_) <;> (try simp at hb) <;> (try (exfalso; omega))))
        · exact Fin.ret ResL.auto
        all_goals (exfalso; omega)
      · have hs := val_short dl.dig hi hl (by omega)
        have hor := u64_or20 (i := i) (u := u) (d := nth D i) (by omega) (by rw [g2]; exact low_at dl.dig (by omega)) d1 (by omega)
        have hwd : IntKind.u64.wrap (nth D i) = nth D i := by rw [wrap_u64']; omega
        repeat' (first | ((first | apply U_ | (apply Ug_; exact rfl; exact rfl) | (apply Ugq_; exact rfl; exact rfl)); (first | (apply Q_shl; exact Ev.auto; exact Ev.auto; (intro hg; omega)) | exact QX.B TYok | exact QX.Len TYok | exact QX.Idx TYok | exact QX.Conv TYok); exact rfl) | refine SX.Box TYok (h := ?_) | refine SC ?_ | (apply S_isnil TYok; exact rfl; exact rfl; exact rfl; exact Ev.auto; intro bn hnil) | refine SG ?_ | (refine W.condA (ht := fun hb => ?_) (hf := fun hb => ?_) <;> (try simp at hb) <;> (try (exfalso; omega))))
        refine ⟨(i + 1, u + pw i * nth D i), ⟨by omega, by rw [val_take hi, g2], by rw [g2]; exact hs.1, by rw [g2]; exact hs.2⟩, ?_, by (try simp only); omega⟩
        simp only [hwd, hor]
        exact Le.auto
    · obtain rfl : i = D.length := by omega
      rw [List.take_length, ev] at g2
      subst g2
      repeat' (first | ((first | apply U_ | (apply Ug_; exact rfl; exact rfl) | (apply Ugq_; exact rfl; exact rfl)); (first | exact QX.B TYok | exact QX.Len TYok | exact QX.Idx TYok | exact QX.Conv TYok | (apply Q_negw; exact Ev.auto)); exact rfl) | refine SX.Box TYok (h := ?_) | refine SC ?_ | (apply S_isnil TYok; exact rfl; exact rfl; exact rfl; exact Ev.auto; intro bn hnil) | refine SG ?_ | (refine W.condA (ht := fun hb => ?_) (hf := fun hb => ?_) <;> (try simp at hb) <;> (try (exfalso; omega))))
      · have e1 : IntKind.i64.wrap (IntKind.u64.wrap (0 - mag x)) = x := by rw [wrap_u64', IntKind.wrap_i64]; omega
        have hb2 : i64B x := by unfold i64B; omega
        rw [show intV x = IntKind.i64.wrap (IntKind.u64.wrap (0 - mag x)) by rw [e1]; exact if_pos hb2, decide_eq_true hb2]
        exact Fin.ret ResL.auto
      · have hb2 : i64B x := by unfold i64B; omega
        rw [show intV x = mag x by rw [show intV x = x from if_pos hb2]; omega, decide_eq_true hb2]
        exact Fin.ret ResL.auto
      · have hb2 : ¬ i64B x := by unfold i64B; omega
        rw [show intV x = 0 from if_neg hb2, decide_eq_false hb2]
        exact Fin.ret ResL.auto
end Go.Proofs.Ytjedkgogjehigaa
end
section
set_option linter.unusedVariables false
set_option linter.unusedSimpArgs false
set_option maxHeartbeats 8000000
set_option linter.unusedSectionVars false
namespace Go.Proofs.Ytjedkgogjehigaa
open Lf Go
attribute [local irreducible] PureOp EffOp Ev RG W Then InBlock Lf.Fin nth App InitE Pick SubE EvL EvD EvP EvR ResL Lf.Lex SubR SubBR EvC FinO FinM ResM ResD FinS val pw digs trimL
theorem rightL_ok (s : Int) (l : List Int) (hl : l.length ≤ 9223372036854775807) : ACalls Try.prog 35 [aB s l] (.pv (cB (rightB s l))) := by
  refine ACalls.of_W (qs := [cB (rightB s l)]) [2] 49 Try.func35 (by kernel_rfl) rfl rfl rfl fun G => ?_
  refine W.initA (hw := ?_)
  repeat' (first | ((first | apply U_ | (apply Ug_; exact rfl; exact rfl) | (apply Ugq_; exact rfl; exact rfl)); (first | exact QX.B TYok | exact QX.Len TYok | exact QX.Idx TYok); exact rfl) | refine SX.Box TYok (h := ?_) | refine SC ?_ | (apply S_isnil TYok; exact rfl; exact rfl; exact rfl; exact Ev.auto; intro bn hnil) | refine SG ?_ | (refine W.condA (ht := fun hb => ?_) (hf := fun hb => ?_) <;> (try simp at hb) <;> (try (exfalso; omega))))
  apply W.loopP (σ := Nat) 49 [1, 3, 10, 11] (fun k => k ≤ l.length ∧ l.all digB = (l.drop k).all digB) (fun k => [(12, vI k)]) (fun _ => [(1, ⟨38, 2, [[.int .i64 s, .sl (l.map Lf.encI)]]⟩)]) (fun k => l.length - k) (0)
  case hp => repeat (first | exact Pick.nil | apply Pick.cons rfl)
  case h0 =>
    refine ⟨by simp, ?_⟩
    exact Le.auto
  case round =>
    rintro k ⟨g1, g2⟩
    apply W.norm (by repeat (first | exact App.nil | apply App.cons))
    by_cases hk : k < l.length
    · have e : l.all digB = (digB (nth l k) && (l.drop (k + 1)).all digB) := by rw [g2, drop_nth hk, List.all_cons]
      repeat' (first | ((first | apply U_ | (apply Ug_; exact rfl; exact rfl) | (apply Ugq_; exact rfl; exact rfl)); (first | exact QX.B TYok | exact QX.Len TYok | exact QX.Idx TYok); exact rfl) | refine SX.Box TYok (h := ?_) | refine SC ?_ | (apply S_isnil TYok; exact rfl; exact rfl; exact rfl; exact Ev.auto; intro bn hnil) | refine SG ?_ | (refine W.condA (ht := fun hb => ?_) (hf := fun hb => ?_) <;> (try simp at hb) <;> (try (exfalso; omega))))
      · have e2 : rightB s l = false := by
          rw [rightB, e, show digB (nth l k) = false by
            simp only [digB, Bool.and_eq_false_iff, decide_eq_false_iff_not]; omega]; rfl
        rw [e2]
        exact Fin.ret ResL.auto
      · refine ⟨k + 1, ⟨by omega, ?_⟩, ?_, by omega⟩
        · rw [e, show digB (nth l k) = true by
            simp only [digB, Bool.and_eq_true, decide_eq_true_iff]; omega]; rfl
        · exact Le.auto
    · obtain rfl : k = l.length := by omega
      have e : l.all digB = true := by rw [g2, List.drop_length]; rfl
      by_cases h0 : l.length = 0
      · have e2 : rightB s l = decide (s = 0) := by rw [rightB, e, if_pos h0]; rfl
        repeat' (first | ((first | apply U_ | (apply Ug_; exact rfl; exact rfl) | (apply Ugq_; exact rfl; exact rfl)); (first | exact QX.B TYok | exact QX.Len TYok | exact QX.Idx TYok); exact rfl) | refine SX.Box TYok (h := ?_) | refine SC ?_ | (apply S_isnil TYok; exact rfl; exact rfl; exact rfl; exact Ev.auto; intro bn hnil) | refine SG ?_ | (refine W.condA (ht := fun hb => ?_) (hf := fun hb => ?_) <;> (try simp at hb) <;> (try (exfalso; omega))))
        · rw [e2]
          exact Fin.ret ResL.auto
        · exact absurd (List.length_eq_zero_iff.1 h0) hb
      · have e2 : rightB s l = ((decide (s = 1) || decide (s = -1)) && decide ((l.length : Int) ≤ 60) && !decide (nth l ((l.length : Int) - 1).toNat = 0)) := by
          rw [rightB, e, if_neg h0, show ((l.length : Int) - 1).toNat = l.length - 1 by omega, show decide (l.length ≤ 60) = decide ((l.length : Int) ≤ 60) from decide_eq_decide.2 (by omega)]; rfl
        repeat' (first | ((first | apply U_ | (apply Ug_; exact rfl; exact rfl) | (apply Ugq_; exact rfl; exact rfl)); (first | exact QX.B TYok | exact QX.Len TYok | exact QX.Idx TYok); exact rfl) | refine SX.Box TYok (h := ?_) | refine SC ?_ | (apply S_isnil TYok; exact rfl; exact rfl; exact rfl; exact Ev.auto; intro bn hnil) | refine SG ?_ | (refine W.condA (ht := fun hb => ?_) (hf := fun hb => ?_) <;> (try simp at hb) <;> (try (exfalso; omega))))
        · exact absurd (by rw [hb]; rfl) h0
        · rw [e2]
          exact Fin.ret ResL.auto
theorem quo_pos {x y q r P : Int} (h : x = y * q + r) (hy : 0 < y) (h0 : 0 ≤ r) (h1 : r < y) (hx : -P < x ∧ x < P) : -P < q ∧ q < P := by
  constructor
  · by_cases hc : -P < q
    · exact hc
    · exfalso
      have e : (y - 1) * (-(q + 1)) = -(y * q) - y + q + 1 := by grind
      have := Int.mul_nonneg (show 0 ≤ y - 1 by omega) (show 0 ≤ -(q + 1) by omega)
      omega
  · by_cases hc : q < P
    · exact hc
    · exfalso
      have e : (y - 1) * q = y * q - q := by grind
      have := Int.mul_nonneg (show 0 ≤ y - 1 by omega) (show 0 ≤ q by omega)
      omega
theorem okZ_quo {x y : Int} (hx : okZ x) (h0 : y ≠ 0) : okZ (quoZ x y) := by
  have h1 := quo_rem x y
  have h2 := rem_rng (x := x) h0
  refine okZ.of ?_
  by_cases hp : 0 < y
  · exact quo_pos h1 hp (h2.1 hp).1 (h2.1 hp).2 hx.lt
  · have hn : y < 0 := by omega
    have := hx.lt
    refine quo_pos (x := -x) (y := -y) (r := -(remZ x y)) ?_ (by omega) (by have := h2.2 hn; omega) (by have := h2.2 hn; omega) (by omega)
    have e : -y * quoZ x y = -(y * quoZ x y) := by grind
    omega
theorem okZ_rem {x y : Int} (hy : okZ y) (h0 : y ≠ 0) : okZ (remZ x y) := by
  have h2 := rem_rng (x := x) h0
  have := hy.lt
  refine okZ.of ?_
  by_cases hp : 0 < y
  · have := h2.1 hp; omega
  · have := h2.2 (by omega); omega
theorem full_yes {z : Int} (h : okZ z) : fullZ z = z ∧ fullE z = 0 := ⟨if_pos h, if_pos h⟩
end Go.Proofs.Ytjedkgogjehigaa
end
