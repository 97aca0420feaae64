/-
  Part 8 of what the proof rests on.
-/
import Derived.Test.YtldgkgfkdipdeaaGreatDoorTellsS07
import Derived.Test.YtldgkgfkdipdeaaGreatDoorTellsS05
import Derived.Shelf.Strings.Builder1
import Derived.Shelf.Strings.Builder2
import Derived.Shelf.Strings.OnBuilder
import Derived.Shelf.Strings.SlTrimAscii
import Derived.Shelf.LaysM
import Derived.Shelf.Strconv.Itoa3
import Derived.Shelf.Strings.Repeat
import Derived.Shelf.Strings.Search1
import Derived.Shelf.Strings.Search2
import Derived.Ground.Names2Prog
import Derived.Shelf.Slices.ReverseS
import Derived.Test.YtldgkgfkdipdeaaGreatDoorProg
import Derived.Test.YtldgkgfkdipdeaaGreatDoorTellsS03
import Derived.ProofKit
import Derived.OpenShut
import Derived.Carry
section
set_option linter.unusedVariables false
set_option linter.unusedSimpArgs false
set_option maxHeartbeats 8000000
namespace Go.Proofs.YtldgkgfkdipdeaaGreatDoor
open Lf Go
attribute [local irreducible] PureOp EffOp Ev RG W Then InBlock Lf.Fin nth App InitE Pick SubE EvL EvD EvP EvR ResL Lf.Lex SubR SubBR FinO FinM ResM ResD FinS val pw digs trimL
theorem okZ_neg {x : Int} (h : okZ x) : okZ (-x) := okZ.of (by have := h.lt; omega)
theorem cmpZ_ok (x y : Int) (hx : okZ x) (hy : okZ y) : ACalls Tryz.prog 23 [zB x, zB y] (.pv (cI (cmpI x y))) := by
  have h1 := right_yes hx
  have h2 := right_yes hy
  have l1 := num_len hx
  have l2 := num_len hy
  have h3 := cmp_ok (sgn x) (sgn y)
  have h4 := compare_ok (digs (mag x)) (digs (mag y)) (digs_norm _) (digs_norm _) (by omega) (by omega)
  rw [val_mag, val_mag] at h4
  have c1 := sgn_cases x
  have c2 := sgn_cases y
  by_cases hs : sgn x = sgn y
  · have e : cmpI x y = sgn x * cmpI (mag x) (mag y) ∧ -1 ≤ sgn x * cmpI (mag x) (mag y) ∧ sgn x * cmpI (mag x) (mag y) ≤ 1 := by
      unfold cmpI
      rcases c1 with h | h | h <;> rcases c2 with h' | h' | h' <;> rw [h.1, h'.1] at hs <;> first | (exfalso; omega) | (rw [h.1, h.2.2, h'.2.2]; repeat' split) <;> omega
    rw [e.1]
    refine ACalls.of_W (qs := [cI (sgn x * cmpI (mag x) (mag y))]) [4] 31 Tryz.func23 (by kernel_rfl) rfl rfl rfl fun G => ?_
    refine W.initA (hw := ?_)
    repeat' (first | ((first | apply U_ | (apply Ug_; exact rfl; exact rfl) | (apply Ugq_; exact rfl; exact rfl) | apply Lex.u | (apply Lex.g; exact rfl; exact rfl) | (apply Lex.gq; exact rfl; exact rfl)); (first | exact QX.Move TYok | exact QX.Asg TYok | exact QX.Fld TYok | exact QX.Ld TYok | exact QX.Bin TYok | exact QX.Pick TYok | exact QX.Un TYok | (apply Q_call (h1); exact EvL.auto; exact rfl) | (apply Q_call (h2); exact EvL.auto; exact rfl) | (apply Q_call (h3); exact EvL.auto; exact rfl) | (apply Q_call (h4); exact EvL.auto; exact rfl)); exact rfl) | refine SX.Box TYok (h := ?_) | apply RG.nil | apply Lex.nil | apply Then.n | apply Then.r | apply Then.x | apply InBlock.n | apply InBlock.r | apply InBlock.hit | (apply InBlock.miss; exact rfl) | apply W.seq | apply W.region | apply W.block | apply W.skip | apply W.ret | apply W.exit | (apply RG.gT; exact rfl; exact rfl; (first | assumption | decide)) | (apply RG.gF; exact rfl; exact rfl; (first | assumption | decide | (rw [ne_eq, Bool.not_eq_true]; assumption) | (rw [ne_eq, Bool.not_eq_false]; assumption)); exact rfl) | (apply W.draw2 (id := 5) [0, 1, 0, 4, 0, 16, 60, 127, 255] [[2], [23], [2], [25], [3], [27], [26, 28], [24, 29], [30]] 9 [(23, 4), (24, 8388608), (25, 4), (26, 33554432), (27, 8), (28, 134217728), (29, 335544320), (30, 553648128), (4, 1073741824)] mixed (by kernel_rfl) rfl rfl) | (refine W.condA (ht := fun hb => ?_) (hf := fun hb => ?_) <;> (try simp at hb) <;> (try (exfalso; omega))))
    exact Fin.ret ResL.auto
  · have e : cmpI (sgn x) (sgn y) = cmpI x y := by
      unfold cmpI
      rcases c1 with h | h | h <;> rcases c2 with h' | h' | h' <;> rw [h.1, h'.1] at hs <;> first | (exfalso; omega) | (rw [h.1, h'.1]; repeat' split) <;> omega
    rw [e] at h3
    refine ACalls.of_W (qs := [cI (cmpI x y)]) [4] 31 Tryz.func23 (by kernel_rfl) rfl rfl rfl fun G => ?_
    refine W.initA (hw := ?_)
    repeat' (first | ((first | apply U_ | (apply Ug_; exact rfl; exact rfl) | (apply Ugq_; exact rfl; exact rfl) | apply Lex.u | (apply Lex.g; exact rfl; exact rfl) | (apply Lex.gq; exact rfl; exact rfl)); (first | exact QX.Move TYok | exact QX.Asg TYok | exact QX.Fld TYok | exact QX.Ld TYok | exact QX.Bin TYok | exact QX.Pick TYok | exact QX.Un TYok | (apply Q_call (h1); exact EvL.auto; exact rfl) | (apply Q_call (h2); exact EvL.auto; exact rfl) | (apply Q_call (h3); exact EvL.auto; exact rfl) | (apply Q_call (h4); exact EvL.auto; exact rfl)); exact rfl) | refine SX.Box TYok (h := ?_) | apply RG.nil | apply Lex.nil | apply Then.n | apply Then.r | apply Then.x | apply InBlock.n | apply InBlock.r | apply InBlock.hit | (apply InBlock.miss; exact rfl) | apply W.seq | apply W.region | apply W.block | apply W.skip | apply W.ret | apply W.exit | (apply RG.gT; exact rfl; exact rfl; (first | assumption | decide)) | (apply RG.gF; exact rfl; exact rfl; (first | assumption | decide | (rw [ne_eq, Bool.not_eq_true]; assumption) | (rw [ne_eq, Bool.not_eq_false]; assumption)); exact rfl) | (apply W.draw2 (id := 5) [0, 1, 0, 4, 0, 16, 60, 127, 255] [[2], [23], [2], [25], [3], [27], [26, 28], [24, 29], [30]] 9 [(23, 4), (24, 8388608), (25, 4), (26, 33554432), (27, 8), (28, 134217728), (29, 335544320), (30, 553648128), (4, 1073741824)] mixed (by kernel_rfl) rfl rfl) | (refine W.condA (ht := fun hb => ?_) (hf := fun hb => ?_) <;> (try simp at hb) <;> (try (exfalso; omega))))
    exact Fin.ret ResL.auto
theorem divZ_zero (x : Int) (hx : okZ x) : ACalls Tryz.prog 13 [zB x, zB 0] (.tup [zB 0, zB 0, cI 15]) := by
  have h1 := right_yes hx
  have h2 := right_yes okZ.zero
  have e : sgn 0 = 0 := rfl
  refine ACalls.of_M TYok (qs := [zB 0, zB 0, cI 15]) [.cell 4 24, .cell 5 24, .tmp 6] 67 Tryz.func13 (by kernel_rfl) rfl rfl rfl fun G => ?_
  refine W.initA (hw := ?_)
  repeat' (first | ((first | apply U_ | (apply Ug_; exact rfl; exact rfl) | (apply Ugq_; exact rfl; exact rfl) | apply Lex.u | (apply Lex.g; exact rfl; exact rfl) | (apply Lex.gq; exact rfl; exact rfl)); (first | exact QX.Move TYok | exact QX.Asg TYok | exact QX.Fld TYok | exact QX.Ld TYok | exact QX.Bin TYok | exact QX.Pick TYok | exact QX.Un TYok | exact QX.Len TYok | exact QX.Ext TYok | exact QX.Build TYok | (apply Q_call (h1); exact EvL.auto; exact rfl) | (apply Q_call (h2); exact EvL.auto; exact rfl)); exact rfl) | refine SX.Alloc TYok (h := ?_) | refine SX.Store TYok (h := ?_) | refine SX.Lit TYok (h := ?_) | refine SX.Box TYok (h := ?_) | apply RG.nil | apply Lex.nil | apply Then.n | apply Then.r | apply Then.x | apply InBlock.n | apply InBlock.r | apply InBlock.hit | (apply InBlock.miss; exact rfl) | apply W.seq | apply W.region | apply W.block | apply W.skip | apply W.ret | apply W.exit | (apply S_isnil TYok; exact rfl; exact rfl; exact rfl; exact Ev.auto; intro bn hnil) | (apply RG.gT; exact rfl; exact rfl; (first | assumption | decide)) | (apply RG.gF; exact rfl; exact rfl; (first | assumption | decide | (rw [ne_eq, Bool.not_eq_true]; assumption) | (rw [ne_eq, Bool.not_eq_false]; assumption)); exact rfl) | (apply W.draw2 (id := 8) [0, 1, 0, 4, 15, 0, 63, 0, 128, 0, 1023, 2047, 4095, 8191] [[2], [56], [3], [58], [57, 59], [7], [60, 61], [2], [63], [8], [64, 65]] 11 [(56, 4), (57, 72057594037927936), (58, 8), (59, 288230376151711744), (60, 720575940379279360), (61, 128), (62, 3458764513820540928), (63, 4), (64, 9223372036854775808), (65, 256), (66, 55340232221128654848)] mixed (by kernel_rfl) rfl rfl) | (refine W.drawA (id := 7) (L := [false, false, false, false, false, false, false, false, false, false, false, false, false, false]) mixed rfl ?_) | exact RAll.nil | (refine RAll.cons rfl ?_ ?_) | (refine RA.step (L := [false, false, false, false, false, false, false, false, false, false, false, false, false, false]) (i := 0) (is := [1, 4, 6, 8]) (by kernel_rfl) ?_) | (refine RA.step (L := [false, false, false, false, false, false, false, false, true, false, false, false, false, false]) (i := 0) (is := [1, 4, 6]) (by kernel_rfl) ?_) | (refine RA.step (L := [false, false, false, false, false, false, true, false, true, false, false, false, false, false]) (i := 0) (is := [1, 4, 7]) (by kernel_rfl) ?_) | (refine RA.step (L := [false, false, false, false, false, false, true, true, true, false, false, false, false, false]) (i := 0) (is := [1, 4]) (by kernel_rfl) ?_) | (refine RA.step (L := [false, false, false, false, true, false, true, true, true, false, false, false, false, false]) (i := 0) (is := [1, 5]) (by kernel_rfl) ?_) | (refine RA.step (L := [false, false, false, false, true, true, true, true, true, false, false, false, false, false]) (i := 0) (is := [1]) (by kernel_rfl) ?_) | (refine RA.step (L := [false, true, false, false, true, true, true, true, true, false, false, false, false, false]) (i := 0) (is := []) (by kernel_rfl) ?_) | (refine RA.step (L := [true, true, false, false, true, true, true, true, true, false, false, false, false, false]) (i := 2) (is := []) (by kernel_rfl) ?_) | (refine RA.step (L := [true, true, true, false, true, true, true, true, true, false, false, false, false, false]) (i := 3) (is := []) (by kernel_rfl) ?_) | (refine RA.step (L := [true, true, true, true, true, true, true, true, true, false, false, false, false, false]) (i := 9) (is := []) (by kernel_rfl) ?_) | (refine RA.step (L := [true, true, true, true, true, true, true, true, true, true, false, false, false, false]) (i := 10) (is := []) (by kernel_rfl) ?_) | (refine RA.step (L := [true, true, true, true, true, true, true, true, true, true, true, false, false, false]) (i := 11) (is := []) (by kernel_rfl) ?_) | (refine RA.step (L := [true, true, true, true, true, true, true, true, true, true, true, true, false, false]) (i := 12) (is := []) (by kernel_rfl) ?_) | (refine RA.step (L := [true, true, true, true, true, true, true, true, true, true, true, true, true, false]) (i := 13) (is := []) (by kernel_rfl) ?_) | (refine RA.done (L := [true, true, true, true, true, true, true, true, true, true, true, true, true, true]) (by kernel_rfl) ?_) | (refine RA.step (L := [true, false, false, false, true, true, true, true, true, false, false, false, false, false]) (i := 1) (is := []) (by kernel_rfl) ?_) | (refine RA.step (L := [false, true, false, false, true, false, true, true, true, false, false, false, false, false]) (i := 0) (is := [5]) (by kernel_rfl) ?_) | (refine RA.step (L := [true, true, false, false, true, false, true, true, true, false, false, false, false, false]) (i := 2) (is := [5]) (by kernel_rfl) ?_) | (refine RA.step (L := [true, true, true, false, true, false, true, true, true, false, false, false, false, false]) (i := 3) (is := [5]) (by kernel_rfl) ?_) | (refine RA.step (L := [true, true, true, true, true, false, true, true, true, false, false, false, false, false]) (i := 5) (is := [9]) (by kernel_rfl) ?_) | (refine RA.step (L := [true, true, true, true, true, false, true, true, true, true, false, false, false, false]) (i := 5) (is := []) (by kernel_rfl) ?_) | (refine RA.step (L := [true, false, false, false, true, false, true, true, true, false, false, false, false, false]) (i := 1) (is := [5]) (by kernel_rfl) ?_) | (refine RA.step (L := [false, true, false, false, false, false, true, true, true, false, false, false, false, false]) (i := 0) (is := [4]) (by kernel_rfl) ?_) | (refine RA.step (L := [true, true, false, false, false, false, true, true, true, false, false, false, false, false]) (i := 2) (is := [4]) (by kernel_rfl) ?_) | (refine RA.step (L := [true, true, true, false, false, false, true, true, true, false, false, false, false, false]) (i := 3) (is := [4]) (by kernel_rfl) ?_) | (refine RA.step (L := [true, true, true, true, false, false, true, true, true, false, false, false, false, false]) (i := 4) (is := [9]) (by kernel_rfl) ?_) | (refine RA.step (L := [true, true, true, true, false, false, true, true, true, true, false, false, false, false]) (i := 4) (is := []) (by kernel_rfl) ?_) | (refine RA.step (L := [true, false, false, false, false, false, true, true, true, false, false, false, false, false]) (i := 1) (is := [4]) (by kernel_rfl) ?_) | (refine RA.step (L := [false, false, false, false, true, false, true, false, true, false, false, false, false, false]) (i := 0) (is := [1, 5, 7]) (by kernel_rfl) ?_) | (refine RA.step (L := [false, false, false, false, true, true, true, false, true, false, false, false, false, false]) (i := 0) (is := [1, 7]) (by kernel_rfl) ?_) | (refine RA.step (L := [false, true, false, false, true, true, true, false, true, false, false, false, false, false]) (i := 0) (is := [7]) (by kernel_rfl) ?_) | (refine RA.step (L := [true, true, false, false, true, true, true, false, true, false, false, false, false, false]) (i := 2) (is := [7]) (by kernel_rfl) ?_) | (refine RA.step (L := [true, true, true, false, true, true, true, false, true, false, false, false, false, false]) (i := 3) (is := [7]) (by kernel_rfl) ?_) | (refine RA.step (L := [true, true, true, true, true, true, true, false, true, false, false, false, false, false]) (i := 7) (is := []) (by kernel_rfl) ?_) | (refine RA.step (L := [true, false, false, false, true, true, true, false, true, false, false, false, false, false]) (i := 1) (is := [7]) (by kernel_rfl) ?_) | (refine RA.step (L := [false, true, false, false, true, false, true, false, true, false, false, false, false, false]) (i := 0) (is := [5, 7]) (by kernel_rfl) ?_) | (refine RA.step (L := [true, true, false, false, true, false, true, false, true, false, false, false, false, false]) (i := 2) (is := [5, 7]) (by kernel_rfl) ?_) | (refine RA.step (L := [true, true, true, false, true, false, true, false, true, false, false, false, false, false]) (i := 3) (is := [5, 7]) (by kernel_rfl) ?_) | (refine RA.step (L := [true, true, true, true, true, false, true, false, true, false, false, false, false, false]) (i := 5) (is := [7]) (by kernel_rfl) ?_) | (refine RA.step (L := [true, false, false, false, true, false, true, false, true, false, false, false, false, false]) (i := 1) (is := [5, 7]) (by kernel_rfl) ?_) | (refine RA.step (L := [false, true, false, false, false, false, true, false, true, false, false, false, false, false]) (i := 0) (is := [4, 7]) (by kernel_rfl) ?_) | (refine RA.step (L := [true, true, false, false, false, false, true, false, true, false, false, false, false, false]) (i := 2) (is := [4, 7]) (by kernel_rfl) ?_) | (refine RA.step (L := [true, true, true, false, false, false, true, false, true, false, false, false, false, false]) (i := 3) (is := [4, 7]) (by kernel_rfl) ?_) | (refine RA.step (L := [true, true, true, true, false, false, true, false, true, false, false, false, false, false]) (i := 4) (is := [7]) (by kernel_rfl) ?_) | (refine RA.step (L := [true, false, false, false, false, false, true, false, true, false, false, false, false, false]) (i := 1) (is := [4, 7]) (by kernel_rfl) ?_) | (refine RA.step (L := [false, false, false, false, true, false, false, false, true, false, false, false, false, false]) (i := 0) (is := [1, 5, 6]) (by kernel_rfl) ?_) | (refine RA.step (L := [false, false, false, false, true, true, false, false, true, false, false, false, false, false]) (i := 0) (is := [1, 6]) (by kernel_rfl) ?_) | (refine RA.step (L := [false, true, false, false, true, true, false, false, true, false, false, false, false, false]) (i := 0) (is := [6]) (by kernel_rfl) ?_) | (refine RA.step (L := [true, true, false, false, true, true, false, false, true, false, false, false, false, false]) (i := 2) (is := [6]) (by kernel_rfl) ?_) | (refine RA.step (L := [true, true, true, false, true, true, false, false, true, false, false, false, false, false]) (i := 3) (is := [6]) (by kernel_rfl) ?_) | (refine RA.step (L := [true, true, true, true, true, true, false, false, true, false, false, false, false, false]) (i := 6) (is := []) (by kernel_rfl) ?_) | (refine RA.step (L := [true, false, false, false, true, true, false, false, true, false, false, false, false, false]) (i := 1) (is := [6]) (by kernel_rfl) ?_) | (refine RA.step (L := [false, true, false, false, true, false, false, false, true, false, false, false, false, false]) (i := 0) (is := [5, 6]) (by kernel_rfl) ?_) | (refine RA.step (L := [true, true, false, false, true, false, false, false, true, false, false, false, false, false]) (i := 2) (is := [5, 6]) (by kernel_rfl) ?_) | (refine RA.step (L := [true, true, true, false, true, false, false, false, true, false, false, false, false, false]) (i := 3) (is := [5, 6]) (by kernel_rfl) ?_) | (refine RA.step (L := [true, true, true, true, true, false, false, false, true, false, false, false, false, false]) (i := 5) (is := [6]) (by kernel_rfl) ?_) | (refine RA.step (L := [true, false, false, false, true, false, false, false, true, false, false, false, false, false]) (i := 1) (is := [5, 6]) (by kernel_rfl) ?_) | (refine RA.step (L := [false, true, false, false, false, false, false, false, true, false, false, false, false, false]) (i := 0) (is := [4, 6]) (by kernel_rfl) ?_) | (refine RA.step (L := [true, true, false, false, false, false, false, false, true, false, false, false, false, false]) (i := 2) (is := [4, 6]) (by kernel_rfl) ?_) | (refine RA.step (L := [true, true, true, false, false, false, false, false, true, false, false, false, false, false]) (i := 3) (is := [4, 6]) (by kernel_rfl) ?_) | (refine RA.step (L := [true, true, true, true, false, false, false, false, true, false, false, false, false, false]) (i := 4) (is := [6]) (by kernel_rfl) ?_) | (refine RA.step (L := [true, false, false, false, false, false, false, false, true, false, false, false, false, false]) (i := 1) (is := [4, 6]) (by kernel_rfl) ?_) | (refine RA.step (L := [false, false, false, false, false, false, true, false, false, false, false, false, false, false]) (i := 0) (is := [1, 4, 7, 8]) (by kernel_rfl) ?_) | (refine RA.step (L := [false, false, false, false, false, false, true, true, false, false, false, false, false, false]) (i := 0) (is := [1, 4, 8]) (by kernel_rfl) ?_) | (refine RA.step (L := [false, false, false, false, true, false, true, true, false, false, false, false, false, false]) (i := 0) (is := [1, 5, 8]) (by kernel_rfl) ?_) | (refine RA.step (L := [false, false, false, false, true, true, true, true, false, false, false, false, false, false]) (i := 0) (is := [1, 8]) (by kernel_rfl) ?_) | (refine RA.step (L := [false, true, false, false, true, true, true, true, false, false, false, false, false, false]) (i := 0) (is := [8]) (by kernel_rfl) ?_) | (refine RA.step (L := [true, true, false, false, true, true, true, true, false, false, false, false, false, false]) (i := 2) (is := [8]) (by kernel_rfl) ?_) | (refine RA.step (L := [true, true, true, false, true, true, true, true, false, false, false, false, false, false]) (i := 3) (is := [8]) (by kernel_rfl) ?_) | (refine RA.step (L := [true, true, true, true, true, true, true, true, false, false, false, false, false, false]) (i := 8) (is := []) (by kernel_rfl) ?_) | (refine RA.step (L := [true, false, false, false, true, true, true, true, false, false, false, false, false, false]) (i := 1) (is := [8]) (by kernel_rfl) ?_) | (refine RA.step (L := [false, true, false, false, true, false, true, true, false, false, false, false, false, false]) (i := 0) (is := [5, 8]) (by kernel_rfl) ?_) | (refine RA.step (L := [true, true, false, false, true, false, true, true, false, false, false, false, false, false]) (i := 2) (is := [5, 8]) (by kernel_rfl) ?_) | (refine RA.step (L := [true, true, true, false, true, false, true, true, false, false, false, false, false, false]) (i := 3) (is := [5, 8]) (by kernel_rfl) ?_) | (refine RA.step (L := [true, true, true, true, true, false, true, true, false, false, false, false, false, false]) (i := 5) (is := [8]) (by kernel_rfl) ?_) | (refine RA.step (L := [true, false, false, false, true, false, true, true, false, false, false, false, false, false]) (i := 1) (is := [5, 8]) (by kernel_rfl) ?_) | (refine RA.step (L := [false, true, false, false, false, false, true, true, false, false, false, false, false, false]) (i := 0) (is := [4, 8]) (by kernel_rfl) ?_) | (refine RA.step (L := [true, true, false, false, false, false, true, true, false, false, false, false, false, false]) (i := 2) (is := [4, 8]) (by kernel_rfl) ?_) | (refine RA.step (L := [true, true, true, false, false, false, true, true, false, false, false, false, false, false]) (i := 3) (is := [4, 8]) (by kernel_rfl) ?_) | (refine RA.step (L := [true, true, true, true, false, false, true, true, false, false, false, false, false, false]) (i := 4) (is := [8]) (by kernel_rfl) ?_) | (refine RA.step (L := [true, false, false, false, false, false, true, true, false, false, false, false, false, false]) (i := 1) (is := [4, 8]) (by kernel_rfl) ?_) | (refine RA.step (L := [false, false, false, false, true, false, true, false, false, false, false, false, false, false]) (i := 0) (is := [1, 5, 7, 8]) (by kernel_rfl) ?_) | (refine RA.step (L := [false, false, false, false, true, true, true, false, false, false, false, false, false, false]) (i := 0) (is := [1, 7, 8]) (by kernel_rfl) ?_) | (refine RA.step (L := [false, true, false, false, true, true, true, false, false, false, false, false, false, false]) (i := 0) (is := [7, 8]) (by kernel_rfl) ?_) | (refine RA.step (L := [true, true, false, false, true, true, true, false, false, false, false, false, false, false]) (i := 2) (is := [7, 8]) (by kernel_rfl) ?_) | (refine RA.step (L := [true, true, true, false, true, true, true, false, false, false, false, false, false, false]) (i := 3) (is := [7, 8]) (by kernel_rfl) ?_) | (refine RA.step (L := [true, true, true, true, true, true, true, false, false, false, false, false, false, false]) (i := 7) (is := [8]) (by kernel_rfl) ?_) | (refine RA.step (L := [true, false, false, false, true, true, true, false, false, false, false, false, false, false]) (i := 1) (is := [7, 8]) (by kernel_rfl) ?_) | (refine RA.step (L := [false, true, false, false, true, false, true, false, false, false, false, false, false, false]) (i := 0) (is := [5, 7, 8]) (by kernel_rfl) ?_) | (refine RA.step (L := [true, true, false, false, true, false, true, false, false, false, false, false, false, false]) (i := 2) (is := [5, 7, 8]) (by kernel_rfl) ?_) | (refine RA.step (L := [true, true, true, false, true, false, true, false, false, false, false, false, false, false]) (i := 3) (is := [5, 7, 8]) (by kernel_rfl) ?_) | (refine RA.step (L := [true, true, true, true, true, false, true, false, false, false, false, false, false, false]) (i := 5) (is := [7, 8]) (by kernel_rfl) ?_) | (refine RA.step (L := [true, false, false, false, true, false, true, false, false, false, false, false, false, false]) (i := 1) (is := [5, 7, 8]) (by kernel_rfl) ?_) | (refine RA.step (L := [false, true, false, false, false, false, true, false, false, false, false, false, false, false]) (i := 0) (is := [4, 7, 8]) (by kernel_rfl) ?_) | (refine RA.step (L := [true, true, false, false, false, false, true, false, false, false, false, false, false, false]) (i := 2) (is := [4, 7, 8]) (by kernel_rfl) ?_) | (refine RA.step (L := [true, true, true, false, false, false, true, false, false, false, false, false, false, false]) (i := 3) (is := [4, 7, 8]) (by kernel_rfl) ?_) | (refine RA.step (L := [true, true, true, true, false, false, true, false, false, false, false, false, false, false]) (i := 4) (is := [7, 8]) (by kernel_rfl) ?_) | (refine RA.step (L := [true, false, false, false, false, false, true, false, false, false, false, false, false, false]) (i := 1) (is := [4, 7, 8]) (by kernel_rfl) ?_) | (refine RA.step (L := [false, false, false, false, true, false, false, false, false, false, false, false, false, false]) (i := 0) (is := [1, 5, 6, 8]) (by kernel_rfl) ?_) | (refine RA.step (L := [false, false, false, false, true, true, false, false, false, false, false, false, false, false]) (i := 0) (is := [1, 6, 8]) (by kernel_rfl) ?_) | (refine RA.step (L := [false, true, false, false, true, true, false, false, false, false, false, false, false, false]) (i := 0) (is := [6, 8]) (by kernel_rfl) ?_) | (refine RA.step (L := [true, true, false, false, true, true, false, false, false, false, false, false, false, false]) (i := 2) (is := [6, 8]) (by kernel_rfl) ?_) | (refine RA.step (L := [true, true, true, false, true, true, false, false, false, false, false, false, false, false]) (i := 3) (is := [6, 8]) (by kernel_rfl) ?_) | (refine RA.step (L := [true, true, true, true, true, true, false, false, false, false, false, false, false, false]) (i := 6) (is := [8]) (by kernel_rfl) ?_) | (refine RA.step (L := [true, false, false, false, true, true, false, false, false, false, false, false, false, false]) (i := 1) (is := [6, 8]) (by kernel_rfl) ?_) | (refine RA.step (L := [false, true, false, false, true, false, false, false, false, false, false, false, false, false]) (i := 0) (is := [5, 6, 8]) (by kernel_rfl) ?_) | (refine RA.step (L := [true, true, false, false, true, false, false, false, false, false, false, false, false, false]) (i := 2) (is := [5, 6, 8]) (by kernel_rfl) ?_) | (refine RA.step (L := [true, true, true, false, true, false, false, false, false, false, false, false, false, false]) (i := 3) (is := [5, 6, 8]) (by kernel_rfl) ?_) | (refine RA.step (L := [true, true, true, true, true, false, false, false, false, false, false, false, false, false]) (i := 5) (is := [6, 8]) (by kernel_rfl) ?_) | (refine RA.step (L := [true, false, false, false, true, false, false, false, false, false, false, false, false, false]) (i := 1) (is := [5, 6, 8]) (by kernel_rfl) ?_) | (refine RA.step (L := [false, true, false, false, false, false, false, false, false, false, false, false, false, false]) (i := 0) (is := [4, 6, 8]) (by kernel_rfl) ?_) | (refine RA.step (L := [true, true, false, false, false, false, false, false, false, false, false, false, false, false]) (i := 2) (is := [4, 6, 8]) (by kernel_rfl) ?_) | (refine RA.step (L := [true, true, true, false, false, false, false, false, false, false, false, false, false, false]) (i := 3) (is := [4, 6, 8]) (by kernel_rfl) ?_) | (refine RA.step (L := [true, true, true, true, false, false, false, false, false, false, false, false, false, false]) (i := 4) (is := [6, 8]) (by kernel_rfl) ?_) | (refine RA.step (L := [true, false, false, false, false, false, false, false, false, false, false, false, false, false]) (i := 1) (is := [4, 6, 8]) (by kernel_rfl) ?_) | (refine W.condA (ht := fun hb => ?_) (hf := fun hb => ?_) <;> (try simp at hb) <;> (try (exfalso; omega))))
  · exact FinM.ret (ResM.cell rfl rfl rfl rfl zeroSubZ (ResM.cell rfl rfl rfl rfl zeroSubZ (ResM.tmp rfl rfl PSub.rfl' ResM.nil)))
  all_goals (exfalso; omega)
theorem divZ_ok (x y : Int) (hx : okZ x) (hy : okZ y) (h0 : y ≠ 0) : ACalls Tryz.prog 13 [zB x, zB y] (.tup [zB (quoZ x y), zB (remZ x y), cI 0]) := by
  have h1 := right_yes hx
  have h2 := right_yes hy
  have l1 := num_len hx
  have l2 := num_len hy
  have hs := mul_sgn x y
  have c1 := sgn_cases x
  have c2 := sgn_cases y
  have mx := mag_nn x
  have my : 0 < mag y := by omega
  have h3 := div_ok (digs (mag x)) (digs (mag y)) (digs_norm _) (digs_norm _) (by omega) (by omega) (fun e => by rw [digs_nil (by omega)] at e; omega)
  rw [val_mag, val_mag] at h3
  have hq := Int.ediv_nonneg mx (show 0 ≤ mag y by omega)
  have hq2 : mag x / mag y ≤ mag x := Int.ediv_le_self _ mx
  have hr := Int.emod_nonneg (mag x) (show mag y ≠ 0 by omega)
  have hr2 := Int.emod_lt_of_pos (mag x) my
  have hm := Int.emod_add_mul_ediv (mag x) (mag y)
  have lq := digs_mono hq hq2
  have lr := digs_mono hr (show mag x % mag y ≤ mag y by omega)
  generalize mag x / mag y = q at *
  generalize mag x % mag y = r at *
  have hr0 : (digs r).length = 0 ↔ r = 0 := by rw [List.length_eq_zero_iff, digs_nil hr]
  by_cases hc : sgn x * sgn y < 0 ∧ 0 < r
  · have hne : 0 < (digs r).length := by omega
    have hxy : (x < 0 ∧ 0 < y) ∨ (0 < x ∧ y < 0) := by
      rcases c1 with h | h | h <;> rcases c2 with h' | h' | h' <;> rw [h.1, h'.1] at hc <;> first | (exfalso; omega) | omega
    have h4 := add_ok (digs q) [1] (digs_norm _).dig (Dig.cons (by omega) Dig.nil) (by omega) (by simp)
    rw [val_digs hq, val_one] at h4
    have h5 := sub_ok (digs (mag y)) (digs r) (digs_norm _).dig (digs_norm _).dig (by omega) lr (by rw [val_mag, val_digs hr]; omega)
    rw [val_mag, val_digs hr] at h5
    have l6 := digs_mono (show 0 ≤ mag y - r by omega) (show mag y - r ≤ mag y by omega)
    have l7 : (digs (q + 1)).length ≤ 100 := (digs_len (by omega)).2 (by
      have := hx; unfold okZ at this
      have := pw_lt (show 60 < 100 by omega); omega)
    obtain ⟨u1, u2⟩ := quo_uniq (x := x) (q := -(q + 1)) (r := sgn y * (mag y - r)) h0 (by
        rcases hxy with h | h
        · have e1 : mag x = -x := by omega
          have e2 : mag y = y := by omega
          have e3 : sgn y = 1 := by omega
          rw [e3, e2]; rw [e1, e2] at hm; grind
        · have e1 : mag x = x := by omega
          have e2 : mag y = -y := by omega
          have e3 : sgn y = -1 := by omega
          rw [e3, e2]; rw [e1, e2] at hm; grind)
      (fun hp => by rw [show sgn y = 1 by omega]; omega) (fun hp => by rw [show sgn y = -1 by omega]; omega)
    rw [← u1, ← u2]
    have h6 := signed_ok (-1) (digs (q + 1)) (digs_norm _).dig (by omega) (-(q + 1)) (.inr (.inl rfl)) (by rw [val_digs (by omega)]; omega)
    have h7 := signed_ok (sgn y) (digs (mag y - r)) (digs_norm _).dig (by omega) (sgn y * (mag y - r)) (by omega) (by rw [val_digs (by omega)])
    generalize sgn y * (mag y - r) = z2 at *
    generalize -(q + 1) = z1 at *
    refine ACalls.of_M TYok (qs := [zB z1, zB z2, cI 0]) [.cell 4 24, .cell 5 24, .tmp 6] 67 Tryz.func13 (by kernel_rfl) rfl rfl rfl fun G => ?_
    refine W.initA (hw := ?_)
    repeat' (first | ((first | apply U_ | (apply Ug_; exact rfl; exact rfl) | (apply Ugq_; exact rfl; exact rfl) | apply Lex.u | (apply Lex.g; exact rfl; exact rfl) | (apply Lex.gq; exact rfl; exact rfl)); (first | (apply Q_litD TYok; (repeat (first | exact EvR.nil | apply EvR.cons Ev.auto)); exact rfl; exact rfl; exact rfl; exact rfl; exact rfl; exact rfl) | exact QX.Move TYok | exact QX.Asg TYok | exact QX.Fld TYok | exact QX.Ld TYok | exact QX.Bin TYok | exact QX.Pick TYok | exact QX.Un TYok | exact QX.Len TYok | exact QX.Ext TYok | exact QX.Build TYok | (apply Q_call (h1); exact EvL.auto; exact rfl) | (apply Q_call (h2); exact EvL.auto; exact rfl) | (apply Q_calld (h3); exact EvD.auto) | (apply Q_calld (h5); exact EvD.auto) | (apply Q_calld (h6); exact EvD.auto) | (apply Q_calld (h7); exact EvD.auto) | (apply Q_calld (h4); exact EvD.auto)); exact rfl) | refine SX.Alloc TYok (h := ?_) | refine SX.Store TYok (h := ?_) | refine SX.Lit TYok (h := ?_) | refine SX.Box TYok (h := ?_) | apply RG.nil | apply Lex.nil | apply Then.n | apply Then.r | apply Then.x | apply InBlock.n | apply InBlock.r | apply InBlock.hit | (apply InBlock.miss; exact rfl) | apply W.seq | apply W.region | apply W.block | apply W.skip | apply W.ret | apply W.exit | (apply S_isnil TYok; exact rfl; exact rfl; exact rfl; exact Ev.auto; intro bn hnil) | (apply RG.gT; exact rfl; exact rfl; (first | assumption | decide)) | (apply RG.gF; exact rfl; exact rfl; (first | assumption | decide | (rw [ne_eq, Bool.not_eq_true]; assumption) | (rw [ne_eq, Bool.not_eq_false]; assumption)); exact rfl) | (apply W.draw2 (id := 7) [0, 0, 3, 7, 0, 16, 0, 64, 0, 463, 1023, 2047, 4095, 8191] [[7], [], [45, 46], [47], [3], [49], [3], [51], [8], [52, 53]] 10 [(45, 128), (46, 0), (47, 105553116266496), (48, 140737488355328), (49, 8), (50, 562949953421312), (51, 8), (52, 2251799813685248), (53, 256), (54, 13510798882111488)] mixed (by kernel_rfl) rfl rfl) | (apply W.draw2 (id := 8) [0, 1, 0, 4, 15, 0, 63, 0, 128, 0, 1023, 2047, 4095, 8191] [[2], [56], [3], [58], [57, 59], [7], [60, 61], [2], [63], [8], [64, 65]] 11 [(56, 4), (57, 72057594037927936), (58, 8), (59, 288230376151711744), (60, 720575940379279360), (61, 128), (62, 3458764513820540928), (63, 4), (64, 9223372036854775808), (65, 256), (66, 55340232221128654848)] mixed (by kernel_rfl) rfl rfl) | (refine W.condA (ht := fun hb => ?_) (hf := fun hb => ?_) <;> (try simp at hb) <;> (try (exfalso; omega))))
    · exact FinM.ret ResM.auto
    · exact absurd (hb hc.1) (fun e => by rw [e] at hne; simp at hne)
  · have hcc : ¬ (sgn x * sgn y < 0 ∧ 0 < (digs r).length) := by omega
    have hxy : (x = 0) ∨ (0 < x ∧ 0 < y) ∨ (x < 0 ∧ y < 0) ∨ r = 0 := by
      by_cases hr' : r = 0
      · exact .inr (.inr (.inr hr'))
      · have hc2 : ¬ sgn x * sgn y < 0 := fun q => hc ⟨q, by omega⟩
        rcases c1 with h | h | h
        · rcases c2 with h' | h' | h'
          · omega
          · omega
          · rw [h.1, h'.1] at hc2; exact absurd (by decide) hc2
        · exact .inl h.2.1
        · rcases c2 with h' | h' | h'
          · rw [h.1, h'.1] at hc2; exact absurd (by decide) hc2
          · omega
          · omega
    have hq0 : x = 0 → q = 0 := fun h => by
      have : mag x = 0 := by omega
      omega
    have hsm : sgn x * sgn y = 1 ∨ sgn x * sgn y = -1 ∨ q = 0 := by
      rcases c1 with h | h | h
      · rcases c2 with h' | h' | h'
        · rw [h.1, h'.1]; exact .inl rfl
        · exact absurd h'.2.1 h0
        · rw [h.1, h'.1]; exact .inr (.inl rfl)
      · exact .inr (.inr (hq0 h.2.1))
      · rcases c2 with h' | h' | h'
        · rw [h.1, h'.1]; exact .inr (.inl rfl)
        · exact absurd h'.2.1 h0
        · rw [h.1, h'.1]; exact .inl rfl
    have hsx : sgn x = 1 ∨ sgn x = -1 ∨ r = 0 := by
      rcases c1 with h | h | h
      · exact .inr (.inl h.1)
      · have e := hq0 h.2.1
        rw [e, Int.mul_zero] at hm
        exact .inr (.inr (by omega))
      · exact .inl h.1
    obtain ⟨u1, u2⟩ := quo_uniq (x := x) (q := sgn x * sgn y * q) (r := sgn x * r) h0 (by
        have e1 := sgn_mag x
        have e2 := sgn_mag y
        have e3 : sgn y * sgn y = 1 := by
          rcases c2 with h | h | h
          · rw [h.1]; rfl
          · exact absurd h.2.1 h0
          · rw [h.1]; rfl
        generalize sgn x = sx at *
        generalize sgn y = sy at *
        generalize mag x = px at *
        generalize mag y = py at *
        subst e1; subst e2
        rw [← hm]
        have e4 : sy * py * (sx * sy * q) = sx * (py * q) * (sy * sy) := by grind
        rw [e4, e3]; grind)
      (fun hp => by
        rcases hxy with h | h | h | h
        · rw [show sgn x = 0 by omega]; omega
        · rw [show sgn x = 1 by omega]; omega
        · omega
        · rw [h, Int.mul_zero]; omega)
      (fun hp => by
        rcases hxy with h | h | h | h
        · rw [show sgn x = 0 by omega]; omega
        · omega
        · rw [show sgn x = -1 by omega]; omega
        · rw [h, Int.mul_zero]; omega)
    rw [← u1, ← u2]
    have h6 := signed_ok (sgn x * sgn y) (digs q) (digs_norm _).dig (by omega) (sgn x * sgn y * q) (by rw [val_digs hq]; exact hsm) (by rw [val_digs hq])
    have h7 := signed_ok (sgn x) (digs r) (digs_norm _).dig (by omega) (sgn x * r) (by rw [val_digs hr]; exact hsx) (by rw [val_digs hr])
    generalize sgn x * sgn y * q = z1 at *
    generalize sgn x * r = z2 at *
    refine ACalls.of_M TYok (qs := [zB z1, zB z2, cI 0]) [.cell 4 24, .cell 5 24, .tmp 6] 67 Tryz.func13 (by kernel_rfl) rfl rfl rfl fun G => ?_
    refine W.initA (hw := ?_)
    repeat' (first | ((first | apply U_ | (apply Ug_; exact rfl; exact rfl) | (apply Ugq_; exact rfl; exact rfl) | apply Lex.u | (apply Lex.g; exact rfl; exact rfl) | (apply Lex.gq; exact rfl; exact rfl)); (first | exact QX.Move TYok | exact QX.Asg TYok | exact QX.Fld TYok | exact QX.Ld TYok | exact QX.Bin TYok | exact QX.Pick TYok | exact QX.Un TYok | exact QX.Len TYok | exact QX.Ext TYok | exact QX.Build TYok | (apply Q_call (h1); exact EvL.auto; exact rfl) | (apply Q_call (h2); exact EvL.auto; exact rfl) | (apply Q_calld (h3); exact EvD.auto) | (apply Q_calld (h6); exact EvD.auto) | (apply Q_calld (h7); exact EvD.auto)); exact rfl) | refine SX.Alloc TYok (h := ?_) | refine SX.Store TYok (h := ?_) | refine SX.Lit TYok (h := ?_) | refine SX.Box TYok (h := ?_) | apply RG.nil | apply Lex.nil | apply Then.n | apply Then.r | apply Then.x | apply InBlock.n | apply InBlock.r | apply InBlock.hit | (apply InBlock.miss; exact rfl) | apply W.seq | apply W.region | apply W.block | apply W.skip | apply W.ret | apply W.exit | (apply S_isnil TYok; exact rfl; exact rfl; exact rfl; exact Ev.auto; intro bn hnil) | (apply RG.gT; exact rfl; exact rfl; (first | assumption | decide)) | (apply RG.gF; exact rfl; exact rfl; (first | assumption | decide | (rw [ne_eq, Bool.not_eq_true]; assumption) | (rw [ne_eq, Bool.not_eq_false]; assumption)); exact rfl) | (apply W.draw2 (id := 8) [0, 1, 0, 4, 15, 0, 63, 0, 128, 0, 1023, 2047, 4095, 8191] [[2], [56], [3], [58], [57, 59], [7], [60, 61], [2], [63], [8], [64, 65]] 11 [(56, 4), (57, 72057594037927936), (58, 8), (59, 288230376151711744), (60, 720575940379279360), (61, 128), (62, 3458764513820540928), (63, 4), (64, 9223372036854775808), (65, 256), (66, 55340232221128654848)] mixed (by kernel_rfl) rfl rfl) | (refine W.drawA (id := 7) (L := [false, false, false, false, false, false, false, false, false, false, false, false, false, false]) mixed rfl ?_) | exact RAll.nil | (refine RAll.cons rfl ?_ ?_) | (refine RA.step (L := [false, false, false, false, false, false, false, false, false, false, false, false, false, false]) (i := 0) (is := [1, 4, 6, 8]) (by kernel_rfl) ?_) | (refine RA.step (L := [false, false, false, false, false, false, false, false, true, false, false, false, false, false]) (i := 0) (is := [1, 4, 6]) (by kernel_rfl) ?_) | (refine RA.step (L := [false, false, false, false, false, false, true, false, true, false, false, false, false, false]) (i := 0) (is := [1, 4, 7]) (by kernel_rfl) ?_) | (refine RA.step (L := [false, false, false, false, false, false, true, true, true, false, false, false, false, false]) (i := 0) (is := [1, 4]) (by kernel_rfl) ?_) | (refine RA.step (L := [false, false, false, false, true, false, true, true, true, false, false, false, false, false]) (i := 0) (is := [1, 5]) (by kernel_rfl) ?_) | (refine RA.step (L := [false, false, false, false, true, true, true, true, true, false, false, false, false, false]) (i := 0) (is := [1]) (by kernel_rfl) ?_) | (refine RA.step (L := [false, true, false, false, true, true, true, true, true, false, false, false, false, false]) (i := 0) (is := []) (by kernel_rfl) ?_) | (refine RA.step (L := [true, true, false, false, true, true, true, true, true, false, false, false, false, false]) (i := 2) (is := []) (by kernel_rfl) ?_) | (refine RA.step (L := [true, true, true, false, true, true, true, true, true, false, false, false, false, false]) (i := 3) (is := []) (by kernel_rfl) ?_) | (refine RA.step (L := [true, true, true, true, true, true, true, true, true, false, false, false, false, false]) (i := 9) (is := []) (by kernel_rfl) ?_) | (refine RA.step (L := [true, true, true, true, true, true, true, true, true, true, false, false, false, false]) (i := 10) (is := []) (by kernel_rfl) ?_) | (refine RA.step (L := [true, true, true, true, true, true, true, true, true, true, true, false, false, false]) (i := 11) (is := []) (by kernel_rfl) ?_) | (refine RA.step (L := [true, true, true, true, true, true, true, true, true, true, true, true, false, false]) (i := 12) (is := []) (by kernel_rfl) ?_) | (refine RA.step (L := [true, true, true, true, true, true, true, true, true, true, true, true, true, false]) (i := 13) (is := []) (by kernel_rfl) ?_) | (refine RA.done (L := [true, true, true, true, true, true, true, true, true, true, true, true, true, true]) (by kernel_rfl) ?_) | (refine RA.step (L := [true, false, false, false, true, true, true, true, true, false, false, false, false, false]) (i := 1) (is := []) (by kernel_rfl) ?_) | (refine RA.step (L := [false, true, false, false, true, false, true, true, true, false, false, false, false, false]) (i := 0) (is := [5]) (by kernel_rfl) ?_) | (refine RA.step (L := [true, true, false, false, true, false, true, true, true, false, false, false, false, false]) (i := 2) (is := [5]) (by kernel_rfl) ?_) | (refine RA.step (L := [true, true, true, false, true, false, true, true, true, false, false, false, false, false]) (i := 3) (is := [5]) (by kernel_rfl) ?_) | (refine RA.step (L := [true, true, true, true, true, false, true, true, true, false, false, false, false, false]) (i := 5) (is := [9]) (by kernel_rfl) ?_) | (refine RA.step (L := [true, true, true, true, true, false, true, true, true, true, false, false, false, false]) (i := 5) (is := []) (by kernel_rfl) ?_) | (refine RA.step (L := [true, false, false, false, true, false, true, true, true, false, false, false, false, false]) (i := 1) (is := [5]) (by kernel_rfl) ?_) | (refine RA.step (L := [false, true, false, false, false, false, true, true, true, false, false, false, false, false]) (i := 0) (is := [4]) (by kernel_rfl) ?_) | (refine RA.step (L := [true, true, false, false, false, false, true, true, true, false, false, false, false, false]) (i := 2) (is := [4]) (by kernel_rfl) ?_) | (refine RA.step (L := [true, true, true, false, false, false, true, true, true, false, false, false, false, false]) (i := 3) (is := [4]) (by kernel_rfl) ?_) | (refine RA.step (L := [true, true, true, true, false, false, true, true, true, false, false, false, false, false]) (i := 4) (is := [9]) (by kernel_rfl) ?_) | (refine RA.step (L := [true, true, true, true, false, false, true, true, true, true, false, false, false, false]) (i := 4) (is := []) (by kernel_rfl) ?_) | (refine RA.step (L := [true, false, false, false, false, false, true, true, true, false, false, false, false, false]) (i := 1) (is := [4]) (by kernel_rfl) ?_) | (refine RA.step (L := [false, false, false, false, true, false, true, false, true, false, false, false, false, false]) (i := 0) (is := [1, 5, 7]) (by kernel_rfl) ?_) | (refine RA.step (L := [false, false, false, false, true, true, true, false, true, false, false, false, false, false]) (i := 0) (is := [1, 7]) (by kernel_rfl) ?_) | (refine RA.step (L := [false, true, false, false, true, true, true, false, true, false, false, false, false, false]) (i := 0) (is := [7]) (by kernel_rfl) ?_) | (refine RA.step (L := [true, true, false, false, true, true, true, false, true, false, false, false, false, false]) (i := 2) (is := [7]) (by kernel_rfl) ?_) | (refine RA.step (L := [true, true, true, false, true, true, true, false, true, false, false, false, false, false]) (i := 3) (is := [7]) (by kernel_rfl) ?_) | (refine RA.step (L := [true, true, true, true, true, true, true, false, true, false, false, false, false, false]) (i := 7) (is := []) (by kernel_rfl) ?_) | (refine RA.step (L := [true, false, false, false, true, true, true, false, true, false, false, false, false, false]) (i := 1) (is := [7]) (by kernel_rfl) ?_) | (refine RA.step (L := [false, true, false, false, true, false, true, false, true, false, false, false, false, false]) (i := 0) (is := [5, 7]) (by kernel_rfl) ?_) | (refine RA.step (L := [true, true, false, false, true, false, true, false, true, false, false, false, false, false]) (i := 2) (is := [5, 7]) (by kernel_rfl) ?_) | (refine RA.step (L := [true, true, true, false, true, false, true, false, true, false, false, false, false, false]) (i := 3) (is := [5, 7]) (by kernel_rfl) ?_) | (refine RA.step (L := [true, true, true, true, true, false, true, false, true, false, false, false, false, false]) (i := 5) (is := [7]) (by kernel_rfl) ?_) | (refine RA.step (L := [true, false, false, false, true, false, true, false, true, false, false, false, false, false]) (i := 1) (is := [5, 7]) (by kernel_rfl) ?_) | (refine RA.step (L := [false, true, false, false, false, false, true, false, true, false, false, false, false, false]) (i := 0) (is := [4, 7]) (by kernel_rfl) ?_) | (refine RA.step (L := [true, true, false, false, false, false, true, false, true, false, false, false, false, false]) (i := 2) (is := [4, 7]) (by kernel_rfl) ?_) | (refine RA.step (L := [true, true, true, false, false, false, true, false, true, false, false, false, false, false]) (i := 3) (is := [4, 7]) (by kernel_rfl) ?_) | (refine RA.step (L := [true, true, true, true, false, false, true, false, true, false, false, false, false, false]) (i := 4) (is := [7]) (by kernel_rfl) ?_) | (refine RA.step (L := [true, false, false, false, false, false, true, false, true, false, false, false, false, false]) (i := 1) (is := [4, 7]) (by kernel_rfl) ?_) | (refine RA.step (L := [false, false, false, false, true, false, false, false, true, false, false, false, false, false]) (i := 0) (is := [1, 5, 6]) (by kernel_rfl) ?_) | (refine RA.step (L := [false, false, false, false, true, true, false, false, true, false, false, false, false, false]) (i := 0) (is := [1, 6]) (by kernel_rfl) ?_) | (refine RA.step (L := [false, true, false, false, true, true, false, false, true, false, false, false, false, false]) (i := 0) (is := [6]) (by kernel_rfl) ?_) | (refine RA.step (L := [true, true, false, false, true, true, false, false, true, false, false, false, false, false]) (i := 2) (is := [6]) (by kernel_rfl) ?_) | (refine RA.step (L := [true, true, true, false, true, true, false, false, true, false, false, false, false, false]) (i := 3) (is := [6]) (by kernel_rfl) ?_) | (refine RA.step (L := [true, true, true, true, true, true, false, false, true, false, false, false, false, false]) (i := 6) (is := []) (by kernel_rfl) ?_) | (refine RA.step (L := [true, false, false, false, true, true, false, false, true, false, false, false, false, false]) (i := 1) (is := [6]) (by kernel_rfl) ?_) | (refine RA.step (L := [false, true, false, false, true, false, false, false, true, false, false, false, false, false]) (i := 0) (is := [5, 6]) (by kernel_rfl) ?_) | (refine RA.step (L := [true, true, false, false, true, false, false, false, true, false, false, false, false, false]) (i := 2) (is := [5, 6]) (by kernel_rfl) ?_) | (refine RA.step (L := [true, true, true, false, true, false, false, false, true, false, false, false, false, false]) (i := 3) (is := [5, 6]) (by kernel_rfl) ?_) | (refine RA.step (L := [true, true, true, true, true, false, false, false, true, false, false, false, false, false]) (i := 5) (is := [6]) (by kernel_rfl) ?_) | (refine RA.step (L := [true, false, false, false, true, false, false, false, true, false, false, false, false, false]) (i := 1) (is := [5, 6]) (by kernel_rfl) ?_) | (refine RA.step (L := [false, true, false, false, false, false, false, false, true, false, false, false, false, false]) (i := 0) (is := [4, 6]) (by kernel_rfl) ?_) | (refine RA.step (L := [true, true, false, false, false, false, false, false, true, false, false, false, false, false]) (i := 2) (is := [4, 6]) (by kernel_rfl) ?_) | (refine RA.step (L := [true, true, true, false, false, false, false, false, true, false, false, false, false, false]) (i := 3) (is := [4, 6]) (by kernel_rfl) ?_) | (refine RA.step (L := [true, true, true, true, false, false, false, false, true, false, false, false, false, false]) (i := 4) (is := [6]) (by kernel_rfl) ?_) | (refine RA.step (L := [true, false, false, false, false, false, false, false, true, false, false, false, false, false]) (i := 1) (is := [4, 6]) (by kernel_rfl) ?_) | (refine RA.step (L := [false, false, false, false, false, false, true, false, false, false, false, false, false, false]) (i := 0) (is := [1, 4, 7, 8]) (by kernel_rfl) ?_) | (refine RA.step (L := [false, false, false, false, false, false, true, true, false, false, false, false, false, false]) (i := 0) (is := [1, 4, 8]) (by kernel_rfl) ?_) | (refine RA.step (L := [false, false, false, false, true, false, true, true, false, false, false, false, false, false]) (i := 0) (is := [1, 5, 8]) (by kernel_rfl) ?_) | (refine RA.step (L := [false, false, false, false, true, true, true, true, false, false, false, false, false, false]) (i := 0) (is := [1, 8]) (by kernel_rfl) ?_) | (refine RA.step (L := [false, true, false, false, true, true, true, true, false, false, false, false, false, false]) (i := 0) (is := [8]) (by kernel_rfl) ?_) | (refine RA.step (L := [true, true, false, false, true, true, true, true, false, false, false, false, false, false]) (i := 2) (is := [8]) (by kernel_rfl) ?_) | (refine RA.step (L := [true, true, true, false, true, true, true, true, false, false, false, false, false, false]) (i := 3) (is := [8]) (by kernel_rfl) ?_) | (refine RA.step (L := [true, true, true, true, true, true, true, true, false, false, false, false, false, false]) (i := 8) (is := []) (by kernel_rfl) ?_) | (refine RA.step (L := [true, false, false, false, true, true, true, true, false, false, false, false, false, false]) (i := 1) (is := [8]) (by kernel_rfl) ?_) | (refine RA.step (L := [false, true, false, false, true, false, true, true, false, false, false, false, false, false]) (i := 0) (is := [5, 8]) (by kernel_rfl) ?_) | (refine RA.step (L := [true, true, false, false, true, false, true, true, false, false, false, false, false, false]) (i := 2) (is := [5, 8]) (by kernel_rfl) ?_) | (refine RA.step (L := [true, true, true, false, true, false, true, true, false, false, false, false, false, false]) (i := 3) (is := [5, 8]) (by kernel_rfl) ?_) | (refine RA.step (L := [true, true, true, true, true, false, true, true, false, false, false, false, false, false]) (i := 5) (is := [8]) (by kernel_rfl) ?_) | (refine RA.step (L := [true, false, false, false, true, false, true, true, false, false, false, false, false, false]) (i := 1) (is := [5, 8]) (by kernel_rfl) ?_) | (refine RA.step (L := [false, true, false, false, false, false, true, true, false, false, false, false, false, false]) (i := 0) (is := [4, 8]) (by kernel_rfl) ?_) | (refine RA.step (L := [true, true, false, false, false, false, true, true, false, false, false, false, false, false]) (i := 2) (is := [4, 8]) (by kernel_rfl) ?_) | (refine RA.step (L := [true, true, true, false, false, false, true, true, false, false, false, false, false, false]) (i := 3) (is := [4, 8]) (by kernel_rfl) ?_) | (refine RA.step (L := [true, true, true, true, false, false, true, true, false, false, false, false, false, false]) (i := 4) (is := [8]) (by kernel_rfl) ?_) | (refine RA.step (L := [true, false, false, false, false, false, true, true, false, false, false, false, false, false]) (i := 1) (is := [4, 8]) (by kernel_rfl) ?_) | (refine RA.step (L := [false, false, false, false, true, false, true, false, false, false, false, false, false, false]) (i := 0) (is := [1, 5, 7, 8]) (by kernel_rfl) ?_) | (refine RA.step (L := [false, false, false, false, true, true, true, false, false, false, false, false, false, false]) (i := 0) (is := [1, 7, 8]) (by kernel_rfl) ?_) | (refine RA.step (L := [false, true, false, false, true, true, true, false, false, false, false, false, false, false]) (i := 0) (is := [7, 8]) (by kernel_rfl) ?_) | (refine RA.step (L := [true, true, false, false, true, true, true, false, false, false, false, false, false, false]) (i := 2) (is := [7, 8]) (by kernel_rfl) ?_) | (refine RA.step (L := [true, true, true, false, true, true, true, false, false, false, false, false, false, false]) (i := 3) (is := [7, 8]) (by kernel_rfl) ?_) | (refine RA.step (L := [true, true, true, true, true, true, true, false, false, false, false, false, false, false]) (i := 7) (is := [8]) (by kernel_rfl) ?_) | (refine RA.step (L := [true, false, false, false, true, true, true, false, false, false, false, false, false, false]) (i := 1) (is := [7, 8]) (by kernel_rfl) ?_) | (refine RA.step (L := [false, true, false, false, true, false, true, false, false, false, false, false, false, false]) (i := 0) (is := [5, 7, 8]) (by kernel_rfl) ?_) | (refine RA.step (L := [true, true, false, false, true, false, true, false, false, false, false, false, false, false]) (i := 2) (is := [5, 7, 8]) (by kernel_rfl) ?_) | (refine RA.step (L := [true, true, true, false, true, false, true, false, false, false, false, false, false, false]) (i := 3) (is := [5, 7, 8]) (by kernel_rfl) ?_) | (refine RA.step (L := [true, true, true, true, true, false, true, false, false, false, false, false, false, false]) (i := 5) (is := [7, 8]) (by kernel_rfl) ?_) | (refine RA.step (L := [true, false, false, false, true, false, true, false, false, false, false, false, false, false]) (i := 1) (is := [5, 7, 8]) (by kernel_rfl) ?_) | (refine RA.step (L := [false, true, false, false, false, false, true, false, false, false, false, false, false, false]) (i := 0) (is := [4, 7, 8]) (by kernel_rfl) ?_) | (refine RA.step (L := [true, true, false, false, false, false, true, false, false, false, false, false, false, false]) (i := 2) (is := [4, 7, 8]) (by kernel_rfl) ?_) | (refine RA.step (L := [true, true, true, false, false, false, true, false, false, false, false, false, false, false]) (i := 3) (is := [4, 7, 8]) (by kernel_rfl) ?_) | (refine RA.step (L := [true, true, true, true, false, false, true, false, false, false, false, false, false, false]) (i := 4) (is := [7, 8]) (by kernel_rfl) ?_) | (refine RA.step (L := [true, false, false, false, false, false, true, false, false, false, false, false, false, false]) (i := 1) (is := [4, 7, 8]) (by kernel_rfl) ?_) | (refine RA.step (L := [false, false, false, false, true, false, false, false, false, false, false, false, false, false]) (i := 0) (is := [1, 5, 6, 8]) (by kernel_rfl) ?_) | (refine RA.step (L := [false, false, false, false, true, true, false, false, false, false, false, false, false, false]) (i := 0) (is := [1, 6, 8]) (by kernel_rfl) ?_) | (refine RA.step (L := [false, true, false, false, true, true, false, false, false, false, false, false, false, false]) (i := 0) (is := [6, 8]) (by kernel_rfl) ?_) | (refine RA.step (L := [true, true, false, false, true, true, false, false, false, false, false, false, false, false]) (i := 2) (is := [6, 8]) (by kernel_rfl) ?_) | (refine RA.step (L := [true, true, true, false, true, true, false, false, false, false, false, false, false, false]) (i := 3) (is := [6, 8]) (by kernel_rfl) ?_) | (refine RA.step (L := [true, true, true, true, true, true, false, false, false, false, false, false, false, false]) (i := 6) (is := [8]) (by kernel_rfl) ?_) | (refine RA.step (L := [true, false, false, false, true, true, false, false, false, false, false, false, false, false]) (i := 1) (is := [6, 8]) (by kernel_rfl) ?_) | (refine RA.step (L := [false, true, false, false, true, false, false, false, false, false, false, false, false, false]) (i := 0) (is := [5, 6, 8]) (by kernel_rfl) ?_) | (refine RA.step (L := [true, true, false, false, true, false, false, false, false, false, false, false, false, false]) (i := 2) (is := [5, 6, 8]) (by kernel_rfl) ?_) | (refine RA.step (L := [true, true, true, false, true, false, false, false, false, false, false, false, false, false]) (i := 3) (is := [5, 6, 8]) (by kernel_rfl) ?_) | (refine RA.step (L := [true, true, true, true, true, false, false, false, false, false, false, false, false, false]) (i := 5) (is := [6, 8]) (by kernel_rfl) ?_) | (refine RA.step (L := [true, false, false, false, true, false, false, false, false, false, false, false, false, false]) (i := 1) (is := [5, 6, 8]) (by kernel_rfl) ?_) | (refine RA.step (L := [false, true, false, false, false, false, false, false, false, false, false, false, false, false]) (i := 0) (is := [4, 6, 8]) (by kernel_rfl) ?_) | (refine RA.step (L := [true, true, false, false, false, false, false, false, false, false, false, false, false, false]) (i := 2) (is := [4, 6, 8]) (by kernel_rfl) ?_) | (refine RA.step (L := [true, true, true, false, false, false, false, false, false, false, false, false, false, false]) (i := 3) (is := [4, 6, 8]) (by kernel_rfl) ?_) | (refine RA.step (L := [true, true, true, true, false, false, false, false, false, false, false, false, false, false]) (i := 4) (is := [6, 8]) (by kernel_rfl) ?_) | (refine RA.step (L := [true, false, false, false, false, false, false, false, false, false, false, false, false, false]) (i := 1) (is := [4, 6, 8]) (by kernel_rfl) ?_) | (refine W.condA (ht := fun hb => ?_) (hf := fun hb => ?_) <;> (try simp at hb) <;> (try (exfalso; omega))))
    all_goals first
      | exact FinM.ret ResM.auto
      | (exfalso; apply hcc; exact ⟨hb.1, List.length_pos_iff.2 hb.2⟩)
theorem gcd_step {u v : Int} (hu : 0 ≤ u) (hv : 0 < v) : Int.gcd v (u % v) = Int.gcd u v := by
  obtain ⟨a, rfl⟩ := Int.eq_ofNat_of_zero_le hu
  obtain ⟨b, rfl⟩ := Int.eq_ofNat_of_zero_le (show 0 ≤ v by omega)
  rw [← Int.natCast_emod]
  show Nat.gcd b (a % b) = Nat.gcd a b
  rw [Nat.gcd_comm b, Nat.gcd_comm a, Nat.gcd_rec b a]
def gcdZ (x y : Int) : Int := (Int.gcd x y : Int)
theorem mag_abs (x : Int) : (mag x).natAbs = x.natAbs := by have := sgn_cases x; omega
theorem gcd_mag (x y : Int) : Int.gcd (mag x) (mag y) = Int.gcd x y := by
  show Nat.gcd _ _ = Nat.gcd _ _
  rw [mag_abs, mag_abs]
theorem gcd_lt {x y : Int} (hx : okZ x) (hy : okZ y) : okZ (gcdZ x y) := by
  have hl := hx.lt
  have hl' := hy.lt
  have h0 := pw_pos 60
  refine okZ.of ⟨by unfold gcdZ; omega, ?_⟩
  unfold gcdZ
  by_cases h : x = 0
  · subst h
    rw [Int.gcd_zero_left]; omega
  · have h1 : (Int.gcd x y) ≤ x.natAbs := Nat.le_of_dvd (by omega) (Nat.gcd_dvd_left _ _)
    omega
theorem gcdZ_ok (x y : Int) (hx : okZ x) (hy : okZ y) : ACalls Tryz.prog 19 [zB x, zB y] (.tup [zB (gcdZ x y), cI 0]) := by
  have h1 := right_yes hx
  have h2 := right_yes hy
  have l1 := num_len hx
  have l2 := num_len hy
  have hg := gcd_lt hx hy
  have hg0 : 0 ≤ gcdZ x y := by unfold gcdZ; omega
  have h3 := (clone_ok (digs (mag x)) (by omega)).data rfl
  have hgm : mag (gcdZ x y) = gcdZ x y := by have := sgn_cases (gcdZ x y); omega
  have h5 := checked_yes (gcdZ x y) (by have := num_len hg; omega)
  rw [show fullZ (gcdZ x y) = gcdZ x y from if_pos hg, show fullE (gcdZ x y) = 0 from if_pos hg] at h5
  refine ACalls.of_M TYok (qs := [zB (gcdZ x y), cI 0]) [.cell 4 24, .tmp 5] 44 Tryz.func19 (by kernel_rfl) rfl rfl rfl fun G => ?_
  refine W.initA (hw := ?_)
  repeat' (first | ((first | apply U_ | (apply Ug_; exact rfl; exact rfl) | (apply Ugq_; exact rfl; exact rfl) | apply Lex.u | (apply Lex.g; exact rfl; exact rfl) | (apply Lex.gq; exact rfl; exact rfl)); (first | exact QX.Move TYok | exact QX.Asg TYok | exact QX.Fld TYok | exact QX.Ld TYok | exact QX.Bin TYok | exact QX.Pick TYok | exact QX.Un TYok | exact QX.Len TYok | exact QX.Ext TYok | exact QX.Build TYok | (apply Q_call (h1); exact EvL.auto; exact rfl) | (apply Q_call (h2); exact EvL.auto; exact rfl) | (apply Q_calld (h3); exact EvD.auto)); exact rfl) | refine SX.Alloc TYok (h := ?_) | refine SX.Store TYok (h := ?_) | refine SX.Box TYok (h := ?_) | apply RG.nil | apply Lex.nil | apply Then.n | apply Then.r | apply Then.x | apply InBlock.n | apply InBlock.r | apply InBlock.hit | (apply InBlock.miss; exact rfl) | apply W.seq | apply W.region | apply W.block | apply W.skip | apply W.ret | apply W.exit | (apply RG.gT; exact rfl; exact rfl; (first | assumption | decide)) | (apply RG.gF; exact rfl; exact rfl; (first | assumption | decide | (rw [ne_eq, Bool.not_eq_true]; assumption) | (rw [ne_eq, Bool.not_eq_false]; assumption)); exact rfl) | (apply W.draw2 (id := 3) [0, 1, 3, 0, 8, 7, 63] [[2], [22], [23], [3], [25], [24], [26]] 7 [(22, 4), (23, 4194304), (24, 8388608), (25, 8), (26, 33554432), (6, 16777216), (7, 67108864)] mixed (by kernel_rfl) rfl rfl) | (refine W.condA (ht := fun hb => ?_) (hf := fun hb => ?_) <;> (try simp at hb) <;> (try (exfalso; omega))))
  apply W.loopP (σ := Int × Int) 44 [4] (fun (u, v) => (0 ≤ u ∧ 0 ≤ v ∧ (Int.gcd u v : Int) = gcdZ x y ∧ u < pw 60 ∧ v < pw 60)) (fun (u, v) => [(6, (True, .pv (slI (digs u)))), (7, (True, .pv (slI (digs v))))]) (fun _ => [(4, ⟨24, 2, [[.int .i64 0, .slnil]]⟩)]) (fun (u, v) => v.toNat) ((mag x, mag y))
  case hp => repeat (first | exact Pick.nil | apply Pick.cons rfl)
  case h0 =>
    refine ⟨⟨mag_nn x, mag_nn y, by unfold gcdZ; rw [gcd_mag], hx, hy⟩, ?_⟩
    exact Le.auto
  case round =>
    rintro ⟨u, v⟩ ⟨g1, g2, g3, g4, g5⟩
    dsimp only at g1 g2 g3 g4 g5 ⊢
    have lu := (digs_len g1).2 g4
    have lv := (digs_len g2).2 g5
    have hv0 : (digs v).length = 0 ↔ v = 0 := by rw [List.length_eq_zero_iff, digs_nil g2]
    apply W.norm (by repeat (first | exact App.nil | apply App.cons))
    by_cases hv : v = 0
    · have hlv : (digs v).length = 0 := hv0.2 hv
      have hug : u = gcdZ x y := by rw [hv, Int.gcd_zero_right] at g3; omega
      have h6 := (clone_ok (digs u) (by omega)).data rfl
      have h7 := signed_ok 1 (digs u) (digs_norm _).dig (by omega) (gcdZ x y) (.inl rfl) (by rw [val_digs g1]; omega)
      repeat' (first | ((first | apply U_ | (apply Ug_; exact rfl; exact rfl) | (apply Ugq_; exact rfl; exact rfl) | apply Lex.u | (apply Lex.g; exact rfl; exact rfl) | (apply Lex.gq; exact rfl; exact rfl)); (first | exact QX.Move TYok | exact QX.Asg TYok | exact QX.Fld TYok | exact QX.Ld TYok | exact QX.Bin TYok | exact QX.Pick TYok | exact QX.Un TYok | exact QX.Len TYok | exact QX.Ext TYok | exact QX.Build TYok | (apply Q_calld (h6); exact EvD.auto) | (apply Q_calld (h7); exact EvD.auto) | (apply Q_calld (h5); exact EvD.auto)); exact rfl) | refine SX.Alloc TYok (h := ?_) | refine SX.Store TYok (h := ?_) | refine SX.Box TYok (h := ?_) | apply RG.nil | apply Lex.nil | apply Then.n | apply Then.r | apply Then.x | apply InBlock.n | apply InBlock.r | apply InBlock.hit | (apply InBlock.miss; exact rfl) | apply W.seq | apply W.region | apply W.block | apply W.skip | apply W.ret | apply W.exit | (apply RG.gT; exact rfl; exact rfl; (first | assumption | decide)) | (apply RG.gF; exact rfl; exact rfl; (first | assumption | decide | (rw [ne_eq, Bool.not_eq_true]; assumption) | (rw [ne_eq, Bool.not_eq_false]; assumption)); exact rfl) | (apply W.draw2 (id := 3) [0, 1, 3, 0, 8, 7, 63] [[2], [22], [23], [3], [25], [24], [26]] 7 [(22, 4), (23, 4194304), (24, 8388608), (25, 8), (26, 33554432), (6, 16777216), (7, 67108864)] mixed (by kernel_rfl) rfl rfl) | (refine W.condA (ht := fun hb => ?_) (hf := fun hb => ?_) <;> (try simp at hb) <;> (try (exfalso; omega))))
      exact FinM.ret ResM.auto
    · have hlv : (digs v).length ≠ 0 := fun e => hv (hv0.1 e)
      have h6 := div_ok (digs u) (digs v) (digs_norm _) (digs_norm _) (by omega) (by omega) (fun e => hlv (by rw [e]; rfl))
      rw [val_digs g1, val_digs g2] at h6
      have r0 := Int.emod_nonneg u hv
      have r1 := Int.emod_lt_of_pos u (show 0 < v by omega)
      have r2 := gcd_step g1 (show 0 < v by omega)
      repeat' (first | ((first | apply U_ | (apply Ug_; exact rfl; exact rfl) | (apply Ugq_; exact rfl; exact rfl) | apply Lex.u | (apply Lex.g; exact rfl; exact rfl) | (apply Lex.gq; exact rfl; exact rfl)); (first | exact QX.Move TYok | exact QX.Asg TYok | exact QX.Fld TYok | exact QX.Ld TYok | exact QX.Bin TYok | exact QX.Pick TYok | exact QX.Un TYok | exact QX.Len TYok | exact QX.Ext TYok | exact QX.Build TYok | (apply Q_calld (h6); exact EvD.auto)); exact rfl) | refine SX.Alloc TYok (h := ?_) | refine SX.Store TYok (h := ?_) | refine SX.Box TYok (h := ?_) | apply RG.nil | apply Lex.nil | apply Then.n | apply Then.r | apply Then.x | apply InBlock.n | apply InBlock.r | apply InBlock.hit | (apply InBlock.miss; exact rfl) | apply W.seq | apply W.region | apply W.block | apply W.skip | apply W.ret | apply W.exit | (apply RG.gT; exact rfl; exact rfl; (first | assumption | decide)) | (apply RG.gF; exact rfl; exact rfl; (first | assumption | decide | (rw [ne_eq, Bool.not_eq_true]; assumption) | (rw [ne_eq, Bool.not_eq_false]; assumption)); exact rfl) | (apply W.draw2 (id := 3) [0, 1, 3, 0, 8, 7, 63] [[2], [22], [23], [3], [25], [24], [26]] 7 [(22, 4), (23, 4194304), (24, 8388608), (25, 8), (26, 33554432), (6, 16777216), (7, 67108864)] mixed (by kernel_rfl) rfl rfl) | (refine W.condA (ht := fun hb => ?_) (hf := fun hb => ?_) <;> (try simp at hb) <;> (try (exfalso; omega))))
      · refine ⟨(v, u % v), ⟨g2, r0, by rw [r2]; exact g3, g5, by omega⟩, ?_, by (try simp only); omega⟩
        exact Le.auto
      · exact absurd (by rw [hb]; rfl) hlv
end Go.Proofs.YtldgkgfkdipdeaaGreatDoor
end
section
set_option linter.unusedVariables false
set_option linter.unusedSimpArgs false
set_option maxHeartbeats 8000000
namespace Go.Proofs.YtldgkgfkdipdeaaGreatDoor
open Lf Go
attribute [local irreducible] PureOp EffOp Ev RG W Then InBlock Lf.Fin nth App InitE Pick SubE EvL EvD EvP EvR ResL Lf.Lex SubR SubBR FinO FinM ResM ResD FinS val pw digs trimL
def i64B (x : Int) : Prop := -9223372036854775808 ≤ x ∧ x ≤ 9223372036854775807
structure OfI (x : Int) (l : List Int) (u : Int) : Prop where
  dig : Dig l
  u0 : 0 ≤ u
  eq : mag x = val l + pw l.length * u
theorem i64_mag {x : Int} (h : i64B x) : mag x ≤ 9223372036854775808 := by
  have := sgn_cases x
  unfold i64B at h; omega
theorem i64_ok {x : Int} (h : i64B x) : okZ x := by
  have h1 := i64_mag h
  have h2 : pw 4 = 1208925819614629174706176 := by simp [pw]
  have h3 := pw_mono (show 4 ≤ 60 by omega)
  unfold okZ; omega
theorem OfI.short {x u : Int} {l : List Int} (h : OfI x l u) (hx : i64B x) : (0 < u → l.length ≤ 3) ∧ u ≤ 9223372036854775808 := by
  have h1 := i64_mag hx
  have h2 := h.eq
  have h3 := val_lo h.dig
  have hp := pw_pos l.length
  have h5 : 1 * u ≤ pw l.length * u := Int.mul_le_mul_of_nonneg_right (by omega) h.u0
  refine ⟨fun hu => ?_, by omega⟩
  have h4 : pw l.length * 1 ≤ pw l.length * u := Int.mul_le_mul_of_nonneg_left (by omega) (by omega)
  have h6 : pw 4 = 1208925819614629174706176 := by simp [pw]
  have := pw_inj (show pw l.length < pw 4 by omega)
  omega
theorem OfI.step {x u : Int} {l : List Int} (h : OfI x l u) : OfI x (l ++ [u % 1048576]) (u / 1048576) := by
  have h1 := h.u0
  refine ⟨h.dig.app (Dig.cons (by omega) Dig.nil), by omega, ?_⟩
  have h2 := h.eq
  rw [val_app, val_one, List.length_append, List.length_singleton, pw_succ]
  have h3 := Int.emod_add_mul_ediv u 1048576
  generalize u % 1048576 = r at *
  generalize u / 1048576 = q at *
  subst h3
  rw [h2]; grind
theorem OfI.done {x : Int} {l : List Int} (h : OfI x l 0) : val l = mag x := by rw [h.eq]; omega
theorem ofZ_walk (x : Int) (hx : i64B x) (s : Int) (hs : (s = 1 ∧ 0 ≤ x) ∨ (s = -1 ∧ x < 0)) : ACalls Tryz.prog 30 [cI x] (.pv (zB x)) := by
  have hx' := hx
  unfold i64B at hx'
  have c1 := sgn_cases x
  have key : ∀ l : List Int, OfI x l 0 → l.length ≤ 10 → ACalls Tryz.prog 34 [cI s, slI l] (.pv (zB x)) := fun l hl hll =>
    signed_ok s l hl.dig (by omega) x (by omega) (by rw [hl.done]; rcases hs with h | h <;> rw [h.1] <;> omega)
  have e1 : 0 ≤ x → IntKind.u64.wrap x = mag x := fun h => by rw [wrap_u64']; omega
  have e2 : x < 0 → IntKind.u64.wrap (0 - IntKind.u64.wrap x) = mag x := fun h => by rw [wrap_u64', wrap_u64']; omega
  refine ACalls.of_M TYok (qs := [zB x]) [.cell 2 24] 25 Tryz.func30 (by kernel_rfl) rfl rfl rfl fun G => ?_
  refine W.initA (hw := ?_)
  repeat' (first | ((first | apply U_); (first | (apply Q_or20; exact Ev.auto; exact Ev.auto; (intro hg; first | omega | (simp; omega) | (simp at hg; simp; omega))) | (apply Q_shl20; exact Ev.auto; (intro hg; first | omega | (simp; omega) | (simp at hg; simp; omega))) | (apply Q_shr20; exact Ev.auto) | (apply Q_and1; exact Ev.auto) | (apply Q_mask20; exact Ev.auto) | exact QX.Move TYok | exact QX.Asg TYok | exact QX.Bin TYok | exact QX.Un TYok | exact QX.Conv TYok | (apply Q_negw; exact Ev.auto)); exact rfl) | refine SX.Alloc TYok (h := ?_) | refine SX.Store TYok (h := ?_) | refine SX.Lit TYok (h := ?_) | refine SX.App TYok (h := ?_) | apply RG.nil | apply Lex.nil | apply Then.n | apply Then.r | apply Then.x | apply InBlock.n | apply InBlock.r | apply InBlock.hit | (apply InBlock.miss; exact rfl) | apply W.seq | apply W.region | apply W.block | apply W.skip | apply W.ret | apply W.exit | (refine W.condA (ht := fun hb => ?_) (hf := fun hb => ?_) <;> (try simp at hb) <;> (try (exfalso; omega))))
  · obtain rfl : s = -1 := by omega
    rw [e2 hb]
    have m0 := i64_mag hx
    have m1 := mag_nn x
    refine W.weaken (Le.nilOwn (t := 5) (n := 21) (E := 3) (sz := 1) rfl) ?_
    apply W.loopP (σ := Int × List Int) 25 [2] (fun (u, l) => OfI x l u ∧ l.length ≤ 4) (fun (u, l) => [(3, vI (-1)), (4, (True, .pv (.one (.int .u64 u)))), (5, (True, .slc 21))]) (fun (u, l) => [(2, ⟨24, 2, [[.int .i64 0, .slnil]]⟩), (21, ⟨3, 1, l.map Lf.encI⟩)]) (fun (u, l) => u.toNat) ((mag x, []))
    case hp => repeat (first | exact Pick.nil | apply Pick.cons rfl)
    case h0 =>
      refine ⟨⟨⟨Dig.nil, m1, by simp [val, pw]⟩, by simp⟩, ?_⟩
      exact Le.auto
    case round =>
      rintro ⟨u, l⟩ ⟨g1, gl⟩
      dsimp only at g1 gl ⊢
      have g2 := g1.short hx
      have g3 := g1.u0
      apply W.norm (by repeat (first | exact App.nil | apply App.cons))
      dsimp only [AV.ment, cond_false]
      by_cases hu : 0 < u
      · have g4 := g2.1 hu
        repeat' (first | ((first | apply U_); (first | (apply Q_shr20u; exact Ev.auto) | (apply Q_mask20u; exact Ev.auto; omega) | exact QX.Move TYok | exact QX.Asg TYok | exact QX.Bin TYok | exact QX.Un TYok | exact QX.Conv TYok); exact rfl) | refine SX.Alloc TYok (h := ?_) | refine SX.Store TYok (h := ?_) | refine SX.Lit TYok (h := ?_) | refine SX.App TYok (h := ?_) | apply RG.nil | apply Lex.nil | apply Then.n | apply Then.r | apply Then.x | apply InBlock.n | apply InBlock.r | apply InBlock.hit | (apply InBlock.miss; exact rfl) | apply W.seq | apply W.region | apply W.block | apply W.skip | apply W.ret | apply W.exit | (refine W.condA (ht := fun hb => ?_) (hf := fun hb => ?_) <;> (try simp at hb) <;> (try (exfalso; omega))))
        refine ⟨(u / 1048576, l ++ [u % 1048576]), ⟨g1.step, by simp; omega⟩, ?_, by (try simp only); omega⟩
        exact Le.auto
      · obtain rfl : u = 0 := by omega
        have g5 : l.length ≤ 10 := by omega
        have k1 := key l g1 g5
        repeat' (first | (refine W.weaken (Le.freeze1 (m := 21) rfl) ?_; apply W.region (id := 8)) | ((first | apply U_); (first | exact QX.Move TYok | exact QX.Asg TYok | exact QX.Bin TYok | exact QX.Un TYok | exact QX.Conv TYok | (apply Q_calld (k1); exact EvD.auto)); exact rfl) | refine SX.Alloc TYok (h := ?_) | refine SX.Store TYok (h := ?_) | refine SX.Lit TYok (h := ?_) | refine SX.App TYok (h := ?_) | apply RG.nil | apply Lex.nil | apply Then.n | apply Then.r | apply Then.x | apply InBlock.n | apply InBlock.r | apply InBlock.hit | (apply InBlock.miss; exact rfl) | apply W.seq | apply W.region | apply W.block | apply W.skip | apply W.ret | apply W.exit | (refine W.condA (ht := fun hb => ?_) (hf := fun hb => ?_) <;> (try simp at hb) <;> (try (exfalso; omega))))
        exact FinM.ret ResM.auto
  · obtain rfl : s = 1 := by omega
    rw [e1 hb]
    have m0 := i64_mag hx
    have m1 := mag_nn x
    refine W.weaken (Le.nilOwn (t := 5) (n := 21) (E := 3) (sz := 1) rfl) ?_
    apply W.loopP (σ := Int × List Int) 25 [2] (fun (u, l) => OfI x l u ∧ l.length ≤ 4) (fun (u, l) => [(3, vI (1)), (4, (True, .pv (.one (.int .u64 u)))), (5, (True, .slc 21))]) (fun (u, l) => [(2, ⟨24, 2, [[.int .i64 0, .slnil]]⟩), (21, ⟨3, 1, l.map Lf.encI⟩)]) (fun (u, l) => u.toNat) ((mag x, []))
    case hp => repeat (first | exact Pick.nil | apply Pick.cons rfl)
    case h0 =>
      refine ⟨⟨⟨Dig.nil, m1, by simp [val, pw]⟩, by simp⟩, ?_⟩
      exact Le.auto
    case round =>
      rintro ⟨u, l⟩ ⟨g1, gl⟩
      dsimp only at g1 gl ⊢
      have g2 := g1.short hx
      have g3 := g1.u0
      apply W.norm (by repeat (first | exact App.nil | apply App.cons))
      dsimp only [AV.ment, cond_false]
      by_cases hu : 0 < u
      · have g4 := g2.1 hu
        repeat' (first | ((first | apply U_); (first | (apply Q_shr20u; exact Ev.auto) | (apply Q_mask20u; exact Ev.auto; omega) | exact QX.Move TYok | exact QX.Asg TYok | exact QX.Bin TYok | exact QX.Un TYok | exact QX.Conv TYok); exact rfl) | refine SX.Alloc TYok (h := ?_) | refine SX.Store TYok (h := ?_) | refine SX.Lit TYok (h := ?_) | refine SX.App TYok (h := ?_) | apply RG.nil | apply Lex.nil | apply Then.n | apply Then.r | apply Then.x | apply InBlock.n | apply InBlock.r | apply InBlock.hit | (apply InBlock.miss; exact rfl) | apply W.seq | apply W.region | apply W.block | apply W.skip | apply W.ret | apply W.exit | (refine W.condA (ht := fun hb => ?_) (hf := fun hb => ?_) <;> (try simp at hb) <;> (try (exfalso; omega))))
        refine ⟨(u / 1048576, l ++ [u % 1048576]), ⟨g1.step, by simp; omega⟩, ?_, by (try simp only); omega⟩
        exact Le.auto
      · obtain rfl : u = 0 := by omega
        have g5 : l.length ≤ 10 := by omega
        have k1 := key l g1 g5
        repeat' (first | (refine W.weaken (Le.freeze1 (m := 21) rfl) ?_; apply W.region (id := 8)) | ((first | apply U_); (first | exact QX.Move TYok | exact QX.Asg TYok | exact QX.Bin TYok | exact QX.Un TYok | exact QX.Conv TYok | (apply Q_calld (k1); exact EvD.auto)); exact rfl) | refine SX.Alloc TYok (h := ?_) | refine SX.Store TYok (h := ?_) | refine SX.Lit TYok (h := ?_) | refine SX.App TYok (h := ?_) | apply RG.nil | apply Lex.nil | apply Then.n | apply Then.r | apply Then.x | apply InBlock.n | apply InBlock.r | apply InBlock.hit | (apply InBlock.miss; exact rfl) | apply W.seq | apply W.region | apply W.block | apply W.skip | apply W.ret | apply W.exit | (refine W.condA (ht := fun hb => ?_) (hf := fun hb => ?_) <;> (try simp at hb) <;> (try (exfalso; omega))))
        exact FinM.ret ResM.auto
theorem ofZ_ok (x : Int) (hx : i64B x) : ACalls Tryz.prog 30 [cI x] (.pv (zB x)) := by
  by_cases h : 0 ≤ x
  · exact ofZ_walk x hx 1 (.inl ⟨rfl, h⟩)
  · exact ofZ_walk x hx (-1) (.inr ⟨rfl, by omega⟩)
instance (x : Int) : Decidable (i64B x) := by unfold i64B; infer_instance
def intV (x : Int) : Int := if i64B x then x else 0
theorem val_short {l : List Int} {i : Nat} (dl : Dig l) (hi : i < l.length) (h4 : l.length ≤ 4) (h3 : i = 3 → nth l i ≤ 8) : 0 ≤ val (l.take i) + pw i * nth l i ∧ val (l.take i) + pw i * nth l i ≤ 18446744073709551615 := by
  have h1 := low_at dl (j := i) (by omega)
  have h2 := dl.nth hi
  have hm : 0 ≤ pw i * nth l i := Int.mul_nonneg (by have := pw_pos i; omega) h2.1
  have hc : i = 0 ∨ i = 1 ∨ i = 2 ∨ i = 3 := by omega
  refine ⟨by omega, ?_⟩
  rcases hc with rfl | rfl | rfl | rfl <;> simp only [pw] at h1 ⊢ <;> omega
theorem intZ_ok (x : Int) (hx : okZ x) : ACalls Tryz.prog 15 [zB x] (.tup [cI (intV x), cB (decide (i64B x))]) := by
  have h1 := right_yes hx
  have l1 := num_len hx
  have c1 := sgn_cases x
  have dl := digs_norm (mag x)
  have ev := val_mag x
  have m0 := mag_nn x
  have hno : ¬ mag x ≤ 9223372036854775808 → intV x = 0 ∧ decide (i64B x) = false := fun h => by
    have : ¬ i64B x := fun q => h (i64_mag q)
    exact ⟨if_neg this, decide_eq_false this⟩
  have hbig : ¬ (digs (mag x)).length ≤ 4 → ¬ mag x ≤ 9223372036854775808 := fun h q => h ((digs_len m0).2 (by
    have h6 : pw 4 = 1208925819614629174706176 := by simp [pw]
    omega))
  by_cases hl : (digs (mag x)).length ≤ 4
  case neg =>
    obtain ⟨e1, e2⟩ := hno (hbig hl)
    rw [e1, e2]
    refine ACalls.of_M TYok (qs := [cI 0, cB false]) [.tmp 2, .tmp 3] 59 Tryz.func15 (by kernel_rfl) rfl rfl rfl fun G => ?_
    refine W.initA (hw := ?_)
    repeat' (first | ((first | apply U_ | (apply Ug_; exact rfl; exact rfl) | (apply Ugq_; exact rfl; exact rfl)); (first | exact QX.Move TYok | exact QX.Asg TYok | exact QX.Fld TYok | exact QX.Ld TYok | exact QX.Bin TYok | exact QX.Pick TYok | exact QX.Un TYok | exact QX.Len TYok | exact QX.Idx TYok | exact QX.Conv TYok | (apply Q_call (h1); exact EvL.auto; exact rfl)); exact rfl) | refine SX.Box TYok (h := ?_) | apply RG.nil | apply Lex.nil | apply Then.n | apply Then.r | apply Then.x | apply InBlock.n | apply InBlock.r | apply InBlock.hit | (apply InBlock.miss; exact rfl) | apply W.seq | apply W.region | apply W.block | apply W.skip | apply W.ret | apply W.exit | (apply S_isnil TYok; exact rfl; exact rfl; exact rfl; exact Ev.auto; intro bn hnil) | (apply RG.gT; exact rfl; exact rfl; (first | assumption | decide)) | (apply RG.gF; exact rfl; exact rfl; (first | assumption | decide | (rw [ne_eq, Bool.not_eq_true]; assumption) | (rw [ne_eq, Bool.not_eq_false]; assumption)); exact rfl) | (refine W.condA (ht := fun hb => ?_) (hf := fun hb => ?_) <;> (try simp at hb) <;> (try (exfalso; omega))))
    exact FinM.ret ResM.auto
  refine ACalls.of_W (qs := [cI (intV x), cB (decide (i64B x))]) [2, 3] 59 Tryz.func15 (by kernel_rfl) rfl rfl rfl fun G => ?_
  refine W.initA (hw := ?_)
  repeat' (first | ((first | apply U_ | (apply Ug_; exact rfl; exact rfl) | (apply Ugq_; exact rfl; exact rfl)); (first | exact QX.Move TYok | exact QX.Asg TYok | exact QX.Fld TYok | exact QX.Ld TYok | exact QX.Bin TYok | exact QX.Pick TYok | exact QX.Un TYok | exact QX.Len TYok | exact QX.Idx TYok | exact QX.Conv TYok | (apply Q_call (h1); exact EvL.auto; exact rfl)); exact rfl) | refine SX.Box TYok (h := ?_) | apply RG.nil | apply Lex.nil | apply Then.n | apply Then.r | apply Then.x | apply InBlock.n | apply InBlock.r | apply InBlock.hit | (apply InBlock.miss; exact rfl) | apply W.seq | apply W.region | apply W.block | apply W.skip | apply W.ret | apply W.exit | (apply S_isnil TYok; exact rfl; exact rfl; exact rfl; exact Ev.auto; intro bn hnil) | (apply RG.gT; exact rfl; exact rfl; (first | assumption | decide)) | (apply RG.gF; exact rfl; exact rfl; (first | assumption | decide | (rw [ne_eq, Bool.not_eq_true]; assumption) | (rw [ne_eq, Bool.not_eq_false]; assumption)); exact rfl) | (refine W.condA (ht := fun hb => ?_) (hf := fun hb => ?_) <;> (try simp at hb) <;> (try (exfalso; omega))))
  apply W.loopP (σ := Nat × Int) 59 [1, 17, 18] (fun (i, u) => i ≤ (digs (mag x)).length ∧ u = val ((digs (mag x)).take i) ∧ 0 ≤ u ∧ u ≤ 18446744073709551615) (fun (i, u) => [(4, (True, .pv (.one (.int .u64 u)))), (19, vI i)]) (fun _ => [(1, ⟨24, 2, [[.int .i64 (sgn x), .sl ((digs (mag x)).map Lf.encI)]]⟩)]) (fun (i, u) => (digs (mag x)).length - i) ((0, 0))
  case hp => repeat (first | exact Pick.nil | apply Pick.cons rfl)
  case h0 =>
    refine ⟨⟨by simp, by simp [val], by omega, by omega⟩, ?_⟩
    exact Le.auto
  case round =>
    rintro ⟨i, u⟩ ⟨g1, g2, g3, g4⟩
    dsimp only at g1 g2 g3 g4 ⊢
    generalize hD : digs (mag x) = D at *
    apply W.norm (by repeat (first | exact App.nil | apply App.cons))
    by_cases hi : i < D.length
    · have d1 := dl.dig.nth hi
      by_cases h3 : i = 3 ∧ 8 < nth D i
      · have hn : ¬ mag x ≤ 9223372036854775808 := by
          rw [← ev, val_split D (i := i) (by omega), val_drop hi]
          have q1 := val_lo (dl.dig.take i)
          have q2 := val_lo (dl.dig.drop (i + 1))
          obtain ⟨rfl, q3⟩ := h3
          simp only [pw]
          omega
        obtain ⟨e1, e2⟩ := hno hn
        rw [e1, e2]
        repeat' (first | ((first | apply U_ | (apply Ug_; exact rfl; exact rfl) | (apply Ugq_; exact rfl; exact rfl)); (first | exact QX.Move TYok | exact QX.Asg TYok | exact QX.Fld TYok | exact QX.Ld TYok | exact QX.Bin TYok | exact QX.Pick TYok | exact QX.Un TYok | exact QX.Len TYok | exact QX.Idx TYok | exact QX.Conv TYok); exact rfl) | refine SX.Box TYok (h := ?_) | apply RG.nil | apply Lex.nil | apply Then.n | apply Then.r | apply Then.x | apply InBlock.n | apply InBlock.r | apply InBlock.hit | (apply InBlock.miss; exact rfl) | apply W.seq | apply W.region | apply W.block | apply W.skip | apply W.ret | apply W.exit | (apply S_isnil TYok; exact rfl; exact rfl; exact rfl; exact Ev.auto; intro bn hnil) | (apply RG.gT; exact rfl; exact rfl; (first | assumption | decide)) | (apply RG.gF; exact rfl; exact rfl; (first | assumption | decide | (rw [ne_eq, Bool.not_eq_true]; assumption) | (rw [ne_eq, Bool.not_eq_false]; assumption)); exact rfl) | (refine W.condA (ht := fun hb => ?_) (hf := fun hb => ?_) <;> (try simp at hb) <;> (try (exfalso; omega))))
        · exact Fin.ret ResL.auto
        all_goals (exfalso; omega)
      · have hs := val_short dl.dig hi hl (by omega)
        have hor := u64_or20 (i := i) (u := u) (d := nth D i) (by omega) (by rw [g2]; exact low_at dl.dig (by omega)) d1 (by omega)
        have hwd : IntKind.u64.wrap (nth D i) = nth D i := by rw [wrap_u64']; omega
        repeat' (first | ((first | apply U_ | (apply Ug_; exact rfl; exact rfl) | (apply Ugq_; exact rfl; exact rfl)); (first | (apply Q_shl; exact Ev.auto; exact Ev.auto; (intro hg; omega)) | exact QX.Move TYok | exact QX.Asg TYok | exact QX.Fld TYok | exact QX.Ld TYok | exact QX.Bin TYok | exact QX.Pick TYok | exact QX.Un TYok | exact QX.Len TYok | exact QX.Idx TYok | exact QX.Conv TYok); exact rfl) | refine SX.Box TYok (h := ?_) | apply RG.nil | apply Lex.nil | apply Then.n | apply Then.r | apply Then.x | apply InBlock.n | apply InBlock.r | apply InBlock.hit | (apply InBlock.miss; exact rfl) | apply W.seq | apply W.region | apply W.block | apply W.skip | apply W.ret | apply W.exit | (apply S_isnil TYok; exact rfl; exact rfl; exact rfl; exact Ev.auto; intro bn hnil) | (apply RG.gT; exact rfl; exact rfl; (first | assumption | decide)) | (apply RG.gF; exact rfl; exact rfl; (first | assumption | decide | (rw [ne_eq, Bool.not_eq_true]; assumption) | (rw [ne_eq, Bool.not_eq_false]; assumption)); exact rfl) | (refine W.condA (ht := fun hb => ?_) (hf := fun hb => ?_) <;> (try simp at hb) <;> (try (exfalso; omega))))
        refine ⟨(i + 1, u + pw i * nth D i), ⟨by omega, by rw [val_take hi, g2], by rw [g2]; exact hs.1, by rw [g2]; exact hs.2⟩, ?_, by (try simp only); omega⟩
        simp only [hwd, hor]
        exact Le.auto
    · obtain rfl : i = D.length := by omega
      rw [List.take_length, ev] at g2
      subst g2
      repeat' (first | ((first | apply U_ | (apply Ug_; exact rfl; exact rfl) | (apply Ugq_; exact rfl; exact rfl)); (first | exact QX.Move TYok | exact QX.Asg TYok | exact QX.Fld TYok | exact QX.Ld TYok | exact QX.Bin TYok | exact QX.Pick TYok | exact QX.Un TYok | exact QX.Len TYok | exact QX.Idx TYok | exact QX.Conv TYok | (apply Q_negw; exact Ev.auto)); exact rfl) | refine SX.Box TYok (h := ?_) | apply RG.nil | apply Lex.nil | apply Then.n | apply Then.r | apply Then.x | apply InBlock.n | apply InBlock.r | apply InBlock.hit | (apply InBlock.miss; exact rfl) | apply W.seq | apply W.region | apply W.block | apply W.skip | apply W.ret | apply W.exit | (apply S_isnil TYok; exact rfl; exact rfl; exact rfl; exact Ev.auto; intro bn hnil) | (apply RG.gT; exact rfl; exact rfl; (first | assumption | decide)) | (apply RG.gF; exact rfl; exact rfl; (first | assumption | decide | (rw [ne_eq, Bool.not_eq_true]; assumption) | (rw [ne_eq, Bool.not_eq_false]; assumption)); exact rfl) | (refine W.condA (ht := fun hb => ?_) (hf := fun hb => ?_) <;> (try simp at hb) <;> (try (exfalso; omega))))
      · have e1 : IntKind.i64.wrap (IntKind.u64.wrap (0 - mag x)) = x := by rw [wrap_u64', IntKind.wrap_i64]; omega
        have hb2 : i64B x := by unfold i64B; omega
        rw [show intV x = IntKind.i64.wrap (IntKind.u64.wrap (0 - mag x)) by rw [e1]; exact if_pos hb2, decide_eq_true hb2]
        exact Fin.ret ResL.auto
      · have hb2 : i64B x := by unfold i64B; omega
        rw [show intV x = mag x by rw [show intV x = x from if_pos hb2]; omega, decide_eq_true hb2]
        exact Fin.ret ResL.auto
      · have hb2 : ¬ i64B x := by unfold i64B; omega
        rw [show intV x = 0 from if_neg hb2, decide_eq_false hb2]
        exact Fin.ret ResL.auto
end Go.Proofs.YtldgkgfkdipdeaaGreatDoor
end
section
namespace Go.Proofs
open Go.Shelf
def Tryz.lays156_ren : Go.Shelf.Ren := ⟨fun | 156 => 59 | 165 => 75 | 166 => 76 | 169 => 78 | 240 => 87 | 241 => 88 | 276 => 96 | 277 => 97 | n => n, fun | 31 => 59 | 9 => 9 | 3 => 3 | 4 => 4 | 0 => 0 | 20 => 20 | 72 => 83 | 76 => 87 | 70 => 81 | 37 => 56 | 75 => 86 | 127 => 101 | 164 => 108 | 5 => 5 | 80 => 90 | n => n, fun | n => n⟩
theorem Tryz.lays156 : Go.Proofs.Lays.n156 Tryz.prog Tryz.lays156_ren := {
  mixed := by kernel_rfl
  f156 := Tryz.func59.trans (congrArg some (by kernel_rfl))
  f165 := Tryz.func75.trans (congrArg some (by kernel_rfl))
  f166 := Tryz.func76.trans (congrArg some (by kernel_rfl))
  f169 := Tryz.func78.trans (congrArg some (by kernel_rfl))
  f240 := Tryz.func87.trans (congrArg some (by kernel_rfl))
  f241 := Tryz.func88.trans (congrArg some (by kernel_rfl))
  f276 := Tryz.func96.trans (congrArg some (by kernel_rfl))
  f277 := Tryz.func97.trans (congrArg some (by kernel_rfl))
  t0 := Tryz.underlying0
  a0 := Tryz.isAgg0
  z0 := Tryz.sizeOf0
  v0 := Tryz.zeroValue0
  t3 := Tryz.underlying3
  a3 := Tryz.isAgg3
  z3 := Tryz.sizeOf3
  v3 := Tryz.zeroValue3
  t4 := Tryz.underlying4
  a4 := Tryz.isAgg4
  z4 := Tryz.sizeOf4
  v4 := Tryz.zeroValue4
  t9 := Tryz.underlying9
  a9 := Tryz.isAgg9
  z9 := Tryz.sizeOf9
  v9 := Tryz.zeroValue9
  t20 := Tryz.underlying20
  a20 := Tryz.isAgg20
  z20 := Tryz.sizeOf20
  v20 := Tryz.zeroValue20
  t31 := Tryz.underlying59
  a31 := Tryz.isAgg59
  z31 := Tryz.sizeOf59
  v31 := Tryz.zeroValue59
  t37 := Tryz.underlying56
  a37 := Tryz.isAgg56
  z37 := Tryz.sizeOf56
  v37 := Tryz.zeroValue56
  t70 := Tryz.underlying81
  a70 := Tryz.isAgg81
  z70 := Tryz.sizeOf81
  v70 := Tryz.zeroValue81
  t72 := Tryz.underlying83
  a72 := Tryz.isAgg83
  z72 := Tryz.sizeOf83
  v72 := Tryz.zeroValue83
  t75 := Tryz.underlying86
  a75 := Tryz.isAgg86
  z75 := Tryz.sizeOf86
  v75 := Tryz.zeroValue86
  t76 := Tryz.underlying87
  a76 := Tryz.isAgg87
  z76 := Tryz.sizeOf87
  v76 := Tryz.zeroValue87
  t127 := Tryz.underlying101
  a127 := Tryz.isAgg101
  z127 := Tryz.sizeOf101
  v127 := Tryz.zeroValue101
  t164 := Tryz.underlying108
  a164 := Tryz.isAgg108
  z164 := Tryz.sizeOf108
  v164 := Tryz.zeroValue108 }
theorem Tryz.Builder_Extra_156 : Builder.Extra Tryz.prog Tryz.lays156_ren := {
  sizeBuilder := by kernel_rfl
  liesBuilder := by kernel_rfl
  t5 := Tryz.underlying5
  a5 := Tryz.isAgg5
  z5 := Tryz.sizeOf5
  v5 := Tryz.zeroValue5
  infoByte := by kernel_rfl
  cellsByte := by kernel_rfl
  sizeByte := by kernel_rfl
  neB5 := by decide }
open Go.RowKit in
theorem Tryz.strings_Join_none (a : Option Addr) (c : Nat) (sep : ByteArray) (w : World) :
    Calls Tryz.prog 59 #[.slice a 0 c, .string sep] w fun e w' => e = .returned (.string ⟨#[]⟩) ∧ w' = w := Any.strings_Join_none Tryz.lays156 Tryz.Builder_Extra_156 a c sep w
open Go.RowKit in
theorem Tryz.strings_Join (bk o c : Nat) (xs : List ByteArray) (sep : ByteArray) (w : World) (hcells : ∀ (j : Nat) x, xs[j]? = some x → w.cell? ⟨bk, o + j, none⟩ = some (.string x)) (hbk : bk < w.heap.size) (hN : xs.length ≤ 140737488355328) (hcap : xs.length ≤ c) (hlen : (Lib.join (xs.map (·.data.toList)) sep.data.toList).length ≤ 140737488355328) :
    Calls Tryz.prog 59 #[.slice (some ⟨bk, o, none⟩) xs.length c, .string sep] w fun e w' => e = .returned (.string ⟨(Lib.join (xs.map (·.data.toList)) sep.data.toList).toArray⟩) ∧ Below w.heap.size w w' := Any.strings_Join Tryz.lays156 Tryz.Builder_Extra_156 bk o c xs sep w hcells hbk hN hcap hlen
def Tryz.lays160_ren : Go.Shelf.Ren := ⟨fun | 160 => 49 | 232 => 65 | 231 => 64 | 227 => 66 | 234 => 68 | 233 => 67 | 236 => 70 | 235 => 69 | 228 => 80 | 271 => 83 | 151 => 82 | 197 => 81 | 120 => 91 | 152 => 90 | 260 => 89 | 137 => 98 | 119 => 99 | 224 => 100 | 225 => 101 | 217 => 107 | 266 => 110 | n => n, fun | 9 => 9 | 4 => 4 | 3 => 3 | 5 => 5 | 117 => 73 | 116 => 72 | 0 => 0 | 124 => 76 | 21 => 21 | 105 => 92 | 46 => 67 | 119 => 111 | 139 => 114 | 138 => 113 | n => n, fun | 3 => 0 | 4 => 1 | n => n⟩
theorem Tryz.lays160 : Go.Proofs.Lays.n160 Tryz.prog Tryz.lays160_ren := {
  mixed := by kernel_rfl
  f119 := Tryz.func99.trans (congrArg some (by kernel_rfl))
  f120 := Tryz.func91.trans (congrArg some (by kernel_rfl))
  f137 := Tryz.func98.trans (congrArg some (by kernel_rfl))
  f151 := Tryz.func82.trans (congrArg some (by kernel_rfl))
  f152 := Tryz.func90.trans (congrArg some (by kernel_rfl))
  f160 := Tryz.func49.trans (congrArg some (by kernel_rfl))
  f197 := Tryz.func81.trans (congrArg some (by kernel_rfl))
  f217 := Tryz.func107.trans (congrArg some (by kernel_rfl))
  f224 := Tryz.func100.trans (congrArg some (by kernel_rfl))
  f225 := Tryz.func101.trans (congrArg some (by kernel_rfl))
  f227 := Tryz.func66.trans (congrArg some (by kernel_rfl))
  f228 := Tryz.func80.trans (congrArg some (by kernel_rfl))
  f231 := Tryz.func64.trans (congrArg some (by kernel_rfl))
  f232 := Tryz.func65.trans (congrArg some (by kernel_rfl))
  f233 := Tryz.func67.trans (congrArg some (by kernel_rfl))
  f234 := Tryz.func68.trans (congrArg some (by kernel_rfl))
  f235 := Tryz.func69.trans (congrArg some (by kernel_rfl))
  f236 := Tryz.func70.trans (congrArg some (by kernel_rfl))
  f260 := Tryz.func89.trans (congrArg some (by kernel_rfl))
  f266 := Tryz.func110.trans (congrArg some (by kernel_rfl))
  f271 := Tryz.func83.trans (congrArg some (by kernel_rfl))
  t0 := Tryz.underlying0
  a0 := Tryz.isAgg0
  z0 := Tryz.sizeOf0
  v0 := Tryz.zeroValue0
  t3 := Tryz.underlying3
  a3 := Tryz.isAgg3
  z3 := Tryz.sizeOf3
  v3 := Tryz.zeroValue3
  t4 := Tryz.underlying4
  a4 := Tryz.isAgg4
  z4 := Tryz.sizeOf4
  v4 := Tryz.zeroValue4
  t5 := Tryz.underlying5
  a5 := Tryz.isAgg5
  z5 := Tryz.sizeOf5
  v5 := Tryz.zeroValue5
  t9 := Tryz.underlying9
  a9 := Tryz.isAgg9
  z9 := Tryz.sizeOf9
  v9 := Tryz.zeroValue9
  t21 := Tryz.underlying21
  a21 := Tryz.isAgg21
  z21 := Tryz.sizeOf21
  v21 := Tryz.zeroValue21
  t46 := Tryz.underlying67
  a46 := Tryz.isAgg67
  z46 := Tryz.sizeOf67
  v46 := Tryz.zeroValue67
  t105 := Tryz.underlying92
  a105 := Tryz.isAgg92
  z105 := Tryz.sizeOf92
  v105 := Tryz.zeroValue92
  t116 := Tryz.underlying72
  a116 := Tryz.isAgg72
  z116 := Tryz.sizeOf72
  t117 := Tryz.underlying73
  a117 := Tryz.isAgg73
  z117 := Tryz.sizeOf73
  v117 := Tryz.zeroValue73
  t119 := Tryz.underlying111
  a119 := Tryz.isAgg111
  z119 := Tryz.sizeOf111
  t124 := Tryz.underlying76
  a124 := Tryz.isAgg76
  z124 := Tryz.sizeOf76
  v124 := Tryz.zeroValue76
  t138 := Tryz.underlying113
  a138 := Tryz.isAgg113
  z138 := Tryz.sizeOf113
  v138 := Tryz.zeroValue113
  t139 := Tryz.underlying114
  a139 := Tryz.isAgg114
  z139 := Tryz.sizeOf114
  v139 := Tryz.zeroValue114
  g3 := by kernel_rfl
  g4 := by kernel_rfl }
open Go.RowKit in
theorem Tryz.strings_Trim_laid (s cutset : ByteArray) (w : World) (hs : s.size ≤ 9223372036854775807) (hcs : cutset.size < 4294967281) (hascii : ∀ (j : Nat) b, cutset.data.toList[j]? = some b → b.toNat < 128) :
    Calls Tryz.prog 49 #[.string s, .string cutset] w fun e w' => e = .returned (.string ⟨(Lib.trimS s.data.toList cutset.data.toList).toArray⟩) ∧ Below w.heap.size w w' := Any.strings_Trim_laid Tryz.lays160 (by kernel_rfl) s cutset w hs hcs hascii
def Tryz.laysM171_ren : Go.Shelf.Ren := ⟨fun | 171 => 56 | 243 => 72 | 246 => 84 | 283 => 92 | 284 => 93 | 285 => 94 | 286 => 95 | 129 => 103 | 317 => 102 | 318 => 104 | 319 => 105 | 320 => 106 | 337 => 108 | 338 => 109 | n => n, fun | 3 => 3 | 9 => 9 | 2 => 2 | 4 => 4 | 171 => 103 | 0 => 0 | 53 => 52 | 37 => 56 | 5 => 5 | 173 => 106 | 212 => 120 | 51 => 96 | 20 => 20 | 213 => 121 | 46 => 67 | 232 => 124 | 233 => 125 | n => n, fun | 17 => 2 | 18 => 4 | 19 => 5 | n => n⟩
theorem Tryz.laysM171 : Go.Proofs.LaysM.n171 Tryz.prog Tryz.laysM171_ren := {
  mixed := by kernel_rfl
  f129 := Tryz.func103.trans (congrArg some (by kernel_rfl))
  f171 := Tryz.func56.trans (congrArg some (by kernel_rfl))
  f243 := Tryz.func72.trans (congrArg some (by kernel_rfl))
  f246 := Tryz.func84.trans (congrArg some (by kernel_rfl))
  f283 := Tryz.func92.trans (congrArg some (by kernel_rfl))
  f284 := Tryz.func93.trans (congrArg some (by kernel_rfl))
  f285 := Tryz.func94.trans (congrArg some (by kernel_rfl))
  f286 := Tryz.func95.trans (congrArg some (by kernel_rfl))
  f317 := Tryz.func102.trans (congrArg some (by kernel_rfl))
  f318 := Tryz.func104.trans (congrArg some (by kernel_rfl))
  f319 := Tryz.func105.trans (congrArg some (by kernel_rfl))
  f320 := Tryz.func106.trans (congrArg some (by kernel_rfl))
  f337 := Tryz.func108.trans (congrArg some (by kernel_rfl))
  f338 := Tryz.func109.trans (congrArg some (by kernel_rfl))
  t0 := Tryz.underlying0
  a0 := Tryz.isAgg0
  z0 := Tryz.sizeOf0
  v0 := Tryz.zeroValue0
  t2 := Tryz.underlying2
  a2 := Tryz.isAgg2
  z2 := Tryz.sizeOf2
  v2 := Tryz.zeroValue2
  t3 := Tryz.underlying3
  a3 := Tryz.isAgg3
  z3 := Tryz.sizeOf3
  v3 := Tryz.zeroValue3
  t4 := Tryz.underlying4
  a4 := Tryz.isAgg4
  z4 := Tryz.sizeOf4
  v4 := Tryz.zeroValue4
  t5 := Tryz.underlying5
  a5 := Tryz.isAgg5
  z5 := Tryz.sizeOf5
  v5 := Tryz.zeroValue5
  t9 := Tryz.underlying9
  a9 := Tryz.isAgg9
  z9 := Tryz.sizeOf9
  v9 := Tryz.zeroValue9
  t20 := Tryz.underlying20
  a20 := Tryz.isAgg20
  z20 := Tryz.sizeOf20
  v20 := Tryz.zeroValue20
  t37 := Tryz.underlying56
  a37 := Tryz.isAgg56
  z37 := Tryz.sizeOf56
  v37 := Tryz.zeroValue56
  t46 := Tryz.underlying67
  a46 := Tryz.isAgg67
  z46 := Tryz.sizeOf67
  v46 := Tryz.zeroValue67
  t51 := Tryz.underlying96
  a51 := Tryz.isAgg96
  z51 := Tryz.sizeOf96
  v51 := Tryz.zeroValue96
  t53 := Tryz.underlying52
  a53 := Tryz.isAgg52
  z53 := Tryz.sizeOf52
  v53 := Tryz.zeroValue52
  t171 := Tryz.underlying103
  a171 := Tryz.isAgg103
  z171 := Tryz.sizeOf103
  v171 := Tryz.zeroValue103
  t173 := Tryz.underlying106
  a173 := Tryz.isAgg106
  z173 := Tryz.sizeOf106
  v173 := Tryz.zeroValue106
  t212 := Tryz.underlying120
  a212 := Tryz.isAgg120
  z212 := Tryz.sizeOf120
  v212 := Tryz.zeroValue120
  t213 := Tryz.underlying121
  a213 := Tryz.isAgg121
  z213 := Tryz.sizeOf121
  t232 := Tryz.underlying124
  a232 := Tryz.isAgg124
  z232 := Tryz.sizeOf124
  v232 := Tryz.zeroValue124
  t233 := Tryz.underlying125
  a233 := Tryz.isAgg125
  z233 := Tryz.sizeOf125
  v233 := Tryz.zeroValue125
  g17 := by kernel_rfl
  g18 := by kernel_rfl
  g19 := by kernel_rfl
  i0 := by kernel_rfl
  i2 := by kernel_rfl
  i3 := by kernel_rfl
  i4 := by kernel_rfl
  i5 := by kernel_rfl
  i9 := by kernel_rfl
  i20 := by kernel_rfl
  i37 := by kernel_rfl
  i46 := by kernel_rfl
  i51 := by kernel_rfl
  i53 := by kernel_rfl
  i171 := by kernel_rfl
  i173 := by kernel_rfl
  i212 := by kernel_rfl
  i232 := by kernel_rfl
  i233 := by kernel_rfl
  m17 := by kernel_rfl
  m18 := by kernel_rfl
  m19 := by kernel_rfl }
open Go.RowKit Go.Sort Go.Lib in
theorem Tryz.strconv_Itoa (n : Int) (h0 : -9223372036854775808 ≤ n) (h1 : n ≤ 9223372036854775807) (w : World) (htab : Lib.TabIs Tryz.prog w "internal/strconv.uint64pow10" .u64 Lib.pow10Tab) :
    Calls Tryz.prog 56 #[.int .i64 n] w fun e w' => e = .returned (.string ⟨(Lib.itoa n).toArray⟩) ∧ ∃ k os, w' = grow (w.drewN k) os := Any.strconv_Itoa Tryz.laysM171 n h0 h1 w htab
def Tryz.lays105_ren : Go.Shelf.Ren := ⟨fun | 105 => 57 | 212 => 73 | 99 => 74 | 165 => 75 | 166 => 76 | 170 => 77 | 169 => 78 | 263 => 85 | 264 => 86 | 206 => 79 | 240 => 87 | 241 => 88 | 276 => 96 | 277 => 97 | n => n, fun | 9 => 9 | 3 => 3 | 4 => 4 | 20 => 20 | 0 => 0 | 46 => 67 | 109 => 78 | 5 => 5 | 72 => 83 | 76 => 87 | 51 => 96 | 146 => 97 | 53 => 52 | 148 => 99 | 70 => 81 | 37 => 56 | 75 => 86 | 127 => 101 | 164 => 108 | 80 => 90 | n => n, fun | n => n⟩
theorem Tryz.lays105 : Go.Proofs.Lays.n105 Tryz.prog Tryz.lays105_ren := {
  mixed := by kernel_rfl
  f99 := Tryz.func74.trans (congrArg some (by kernel_rfl))
  f105 := Tryz.func57.trans (congrArg some (by kernel_rfl))
  f165 := Tryz.func75.trans (congrArg some (by kernel_rfl))
  f166 := Tryz.func76.trans (congrArg some (by kernel_rfl))
  f169 := Tryz.func78.trans (congrArg some (by kernel_rfl))
  f170 := Tryz.func77.trans (congrArg some (by kernel_rfl))
  f206 := Tryz.func79.trans (congrArg some (by kernel_rfl))
  f212 := Tryz.func73.trans (congrArg some (by kernel_rfl))
  f240 := Tryz.func87.trans (congrArg some (by kernel_rfl))
  f241 := Tryz.func88.trans (congrArg some (by kernel_rfl))
  f263 := Tryz.func85.trans (congrArg some (by kernel_rfl))
  f264 := Tryz.func86.trans (congrArg some (by kernel_rfl))
  f276 := Tryz.func96.trans (congrArg some (by kernel_rfl))
  f277 := Tryz.func97.trans (congrArg some (by kernel_rfl))
  t0 := Tryz.underlying0
  a0 := Tryz.isAgg0
  z0 := Tryz.sizeOf0
  v0 := Tryz.zeroValue0
  t3 := Tryz.underlying3
  a3 := Tryz.isAgg3
  z3 := Tryz.sizeOf3
  v3 := Tryz.zeroValue3
  t4 := Tryz.underlying4
  a4 := Tryz.isAgg4
  z4 := Tryz.sizeOf4
  v4 := Tryz.zeroValue4
  t5 := Tryz.underlying5
  a5 := Tryz.isAgg5
  z5 := Tryz.sizeOf5
  v5 := Tryz.zeroValue5
  t9 := Tryz.underlying9
  a9 := Tryz.isAgg9
  z9 := Tryz.sizeOf9
  v9 := Tryz.zeroValue9
  t20 := Tryz.underlying20
  a20 := Tryz.isAgg20
  z20 := Tryz.sizeOf20
  v20 := Tryz.zeroValue20
  t37 := Tryz.underlying56
  a37 := Tryz.isAgg56
  z37 := Tryz.sizeOf56
  v37 := Tryz.zeroValue56
  t46 := Tryz.underlying67
  a46 := Tryz.isAgg67
  z46 := Tryz.sizeOf67
  v46 := Tryz.zeroValue67
  t51 := Tryz.underlying96
  a51 := Tryz.isAgg96
  z51 := Tryz.sizeOf96
  v51 := Tryz.zeroValue96
  t53 := Tryz.underlying52
  a53 := Tryz.isAgg52
  z53 := Tryz.sizeOf52
  v53 := Tryz.zeroValue52
  t70 := Tryz.underlying81
  a70 := Tryz.isAgg81
  z70 := Tryz.sizeOf81
  v70 := Tryz.zeroValue81
  t72 := Tryz.underlying83
  a72 := Tryz.isAgg83
  z72 := Tryz.sizeOf83
  v72 := Tryz.zeroValue83
  t75 := Tryz.underlying86
  a75 := Tryz.isAgg86
  z75 := Tryz.sizeOf86
  v75 := Tryz.zeroValue86
  t76 := Tryz.underlying87
  a76 := Tryz.isAgg87
  z76 := Tryz.sizeOf87
  v76 := Tryz.zeroValue87
  t109 := Tryz.underlying78
  a109 := Tryz.isAgg78
  z109 := Tryz.sizeOf78
  v109 := Tryz.zeroValue78
  t127 := Tryz.underlying101
  a127 := Tryz.isAgg101
  z127 := Tryz.sizeOf101
  v127 := Tryz.zeroValue101
  t146 := Tryz.underlying97
  a146 := Tryz.isAgg97
  z146 := Tryz.sizeOf97
  v146 := Tryz.zeroValue97
  t148 := Tryz.underlying99
  a148 := Tryz.isAgg99
  z148 := Tryz.sizeOf99
  v148 := Tryz.zeroValue99
  t164 := Tryz.underlying108
  a164 := Tryz.isAgg108
  z164 := Tryz.sizeOf108
  v164 := Tryz.zeroValue108 }
theorem Tryz.Builder_Extra_105 : Builder.Extra Tryz.prog Tryz.lays105_ren := {
  sizeBuilder := by kernel_rfl
  liesBuilder := by kernel_rfl
  t5 := Tryz.underlying5
  a5 := Tryz.isAgg5
  z5 := Tryz.sizeOf5
  v5 := Tryz.zeroValue5
  infoByte := by kernel_rfl
  cellsByte := by kernel_rfl
  sizeByte := by kernel_rfl
  neB5 := by decide }
open Go.RowKit Go.Lib in
theorem Tryz.strings_Repeat (s : ByteArray) (c : Nat) (w : World) (hc : c ≤ 9223372036854775807) (hlen : s.size * c ≤ 140737488355328) :
    Calls Tryz.prog 57 #[.string s, .int .i64 c] w fun e w' => e = .returned (.string ⟨(Lib.repeatL s.data.toList c).toArray⟩) ∧ Below w.heap.size w w' := Any.strings_Repeat Tryz.lays105 Tryz.Builder_Extra_105 s c w hc hlen
def Tryz.laysNm217_ren : Go.Shelf.Ren := ⟨fun | 17 => 58 | n => n, fun | 24 => 59 | 9 => 9 | 3 => 3 | 4 => 4 | 0 => 0 | n => n, fun | n => n⟩
theorem Tryz.laysNm217 : Go.Proofs.Lays2.n17 Tryz.prog Tryz.laysNm217_ren := {
  mixed := by kernel_rfl
  f17 := Tryz.func58.trans (congrArg some (by kernel_rfl))
  t0 := Tryz.underlying0
  a0 := Tryz.isAgg0
  z0 := Tryz.sizeOf0
  v0 := Tryz.zeroValue0
  t3 := Tryz.underlying3
  a3 := Tryz.isAgg3
  z3 := Tryz.sizeOf3
  v3 := Tryz.zeroValue3
  t4 := Tryz.underlying4
  a4 := Tryz.isAgg4
  z4 := Tryz.sizeOf4
  v4 := Tryz.zeroValue4
  t9 := Tryz.underlying9
  a9 := Tryz.isAgg9
  z9 := Tryz.sizeOf9
  v9 := Tryz.zeroValue9
  t24 := Tryz.underlying59
  a24 := Tryz.isAgg59
  z24 := Tryz.sizeOf59
  v24 := Tryz.zeroValue59 }
open Go.RowKit Go.Lib Go.Sort in
theorem Tryz.slices_Reverse_string (blk off cap : Nat) (zs : List (List UInt8)) (w : World) (hH : Holds encStr w blk off zs.toArray) (hsz : zs.length ≤ 9223372036854775807) :
    Calls Tryz.prog 58 #[.slice (some ⟨blk, off, none⟩) zs.length cap] w fun e w' => e = .returned (.tuple #[]) ∧ ∃ n, w' = putRow encStr (Sort.ahead w n) blk off zs.reverse.toArray := Any.slices_Reverse_string Tryz.laysNm217 blk off cap zs w hH hsz
open Go.RowKit Go.Lib Go.Sort in
theorem Tryz.slices_Reverse_string_empty (a : Option Addr) (cap : Nat) (w : World) :
    Calls Tryz.prog 58 #[.slice a 0 cap] w fun e w' => e = .returned (.tuple #[]) ∧ w' = w := Any.slices_Reverse_string_empty Tryz.laysNm217 a cap w
end Go.Proofs
end
section
set_option linter.unusedVariables false
set_option linter.unusedSimpArgs false
set_option linter.unusedSectionVars false
namespace Lf
open Go Go.RowKit Go.ChangeShapes Go.WideShapes Go.ChangeAt
def allΦ (w : World) : Frz := fun b => match w.heap[b]? with | some (.cells c _ _) => some c | _ => none
theorem fits_all (w : World) : Fits (allΦ w) w := by
  intro b cs h
  unfold allΦ at h
  split at h
  · rename_i c e l he
    obtain rfl := Option.some.inj h
    exact ⟨_, _, he⟩
  · cases h
theorem cell_all {w : World} {a : Addr} {v : Value} (h : w.cell? a = some v) : a.spot = none ∧ (allΦ w a.block).bind (·[a.off]?) = some v := by
  unfold World.cell? at h
  unfold allΦ
  split at h
  · rename_i c e l he
    rw [he]
    split at h
    · cases h
    · rename_i hs
      exact ⟨by simpa using hs, by simpa using h⟩
  · cases h
def TyS (R : Nat → List Cell → Prop) : List (Nat × Nat) → List Cell → Prop
  | [], cl => cl = []
  | (_, ft) :: fs, cl => ∃ a b, cl = a ++ b ∧ R ft a ∧ TyS R fs b
def TyL (T : TT) : Nat → Nat → List Cell → Prop
  | 0, _, _ => False
  | n + 1, t, cl => match (T t).map TI.kind with
    | some (.int k) => ∃ i, cl = [.int k i] ∧ (Lit.int k i).wf = true
    | some .bool => ∃ b, cl = [.bool b]
    | some .string => ∃ s, cl = [.str s] ∧ s.length ≤ maxLen
    | some (.slice e) => ∃ rows, cl = [.sl rows] ∧ rows.length ≤ maxLen ∧ ∀ r ∈ rows, TyL T n e r
    | some (.struct fs) => TyS (TyL T n) fs cl
    | _ => False
def tile (T : TT) : Nat → List (Nat × Nat) → Option Nat
  | o, [] => some o
  | o, (fo, ft) :: fs => bif Nat.beq fo o then (T ft).bind fun ti => tile T (o + ti.sz) fs else none
def sup (T : TT) : Nat → Nat → Bool
  | 0, _ => false
  | n + 1, t => match T t with
    | some ti => (match ti.kind with
      | .int _ | .bool | .string => Nat.beq ti.sz 1
      | .slice e => Nat.beq ti.sz 1 && sup T n e && (match T e with | some te => Nat.blt 0 te.sz | none => false)
      | .struct fs => (match tile T 0 fs with | some s => Nat.beq s ti.sz | none => false) && fs.all fun f => sup T n f.2
      | _ => false)
    | none => false
theorem pick_rows {α : Type} {p : Nat → α → Prop} : ∀ {n : Nat}, (∀ i, i < n → ∃ r, p i r) → ∃ rows : List α, rows.length = n ∧ ∀ i r, rows[i]? = some r → p i r
  | 0, _ => ⟨[], rfl, fun i r h => by simp at h⟩
  | n + 1, h => by
    obtain ⟨rows, h1, h2⟩ := pick_rows (n := n) fun i hi => h i (by omega)
    obtain ⟨r, hr⟩ := h n (by omega)
    refine ⟨rows ++ [r], by simp [h1], fun i s hs => ?_⟩
    rw [List.getElem?_append] at hs
    split at hs
    · exact h2 i s hs
    · rename_i hi
      by_cases he : i = n
      · subst he
        simp [h1] at hs
        exact hs ▸ hr
      · rw [List.getElem?_eq_none (by simp; omega)] at hs
        cases hs
section
variable {P : Program} {T : TT} (hT : TOK P T)
include hT
theorem cellsOf_ti {t : Nat} {ti : TI} (h : T t = some ti) : P.cellsOf t = ti.sz := by
  obtain ⟨i, hi, hs, _⟩ := (hT t ti h).info
  simp [Program.cellsOf, hi, hs]
theorem read {H : Type} {enc : TypeId × Value → H} {w : World} {base : Nat} {spare : Nat → Bool} {held : Bool} : ∀ (n t fuel : Nat) (cs : List Value) (x : DataW H × List MemPlace), sup T n t = true → DataW.trod enc P w base spare held fuel t cs = some x →
    ∃ cl, RelL (allΦ w) cs cl ∧ TyL T n t cl ∧ ∀ ti, T t = some ti → cl.length = ti.sz := by
  intro n
  induction n with
  | zero => intro t fuel cs x hs _; simp [sup] at hs
  | succ n ih =>
    intro t fuel cs x hs h
    cases hti : T t with
    | none => simp [sup, hti] at hs
    | some ti =>
      have hk := (hT t ti hti).kind
      have hz := cellsOf_ti hT hti
      simp only [sup, hti] at hs
      simp only [TyL, hti, Option.map_some]
      cases hkd : ti.kind with
      | int k =>
        rw [hkd] at hk hs
        obtain ⟨i, rfl, hx, hw⟩ := DataW.trod_int hk h
        exact ⟨[.int k i], ⟨.int k i, trivial⟩, ⟨i, rfl, hw⟩, fun tj hj => by obtain rfl := Option.some.inj hj; simpa using (Nat.eq_of_beq_eq_true hs).symm⟩
      | bool =>
        rw [hkd] at hk hs
        obtain ⟨b, rfl, hx⟩ := DataW.trod_bool hk h
        exact ⟨[.bool b], ⟨.bool b, trivial⟩, ⟨b, rfl⟩, fun tj hj => by obtain rfl := Option.some.inj hj; simpa using (Nat.eq_of_beq_eq_true hs).symm⟩
      | string =>
        rw [hkd] at hk hs
        obtain ⟨s, rfl, hx, hw⟩ := DataW.trod_string hk h
        refine ⟨[.str s.data.toList], ⟨.str s, trivial⟩, ⟨_, rfl, ?_⟩, fun tj hj => by obtain rfl := Option.some.inj hj; simpa using (Nat.eq_of_beq_eq_true hs).symm⟩
        rw [Array.length_toList]; exact hw
      | slice e =>
        rw [hkd] at hk hs
        simp only [Bool.and_eq_true] at hs
        obtain ⟨⟨hs1, hs2⟩, hs3⟩ := hs
        cases hte : T e with
        | none => rw [hte] at hs3; cases hs3
        | some te =>
          rw [hte] at hs3
          have hpos := blt_lt hs3
          have hze := cellsOf_ti hT hte
          have hlen1 : ∀ tj, some ti = some tj → 1 = tj.sz := fun tj hj => by obtain rfl := Option.some.inj hj; exact (Nat.eq_of_beq_eq_true hs1).symm
          rcases DataW.trod_slice hk h with ⟨rfl, hx⟩ | ⟨a, len, cap, elems, rest, m, rfl, rfl, hx, hb, hl, hm, hel, hget, _, _⟩
          · exact ⟨[.sl []], ⟨.sl0, trivial⟩, ⟨[], rfl, Nat.zero_le _, fun r hr => by cases hr⟩, hlen1⟩
          · have each : ∀ i, i < len → ∃ cl : List Cell, ∃ ci, w.cells? base (a.add (i * P.cellsOf e)) (P.cellsOf e) = some ci ∧ RelL (allΦ w) ci cl ∧ TyL T n e cl ∧ cl.length = te.sz := by
              intro i hi
              have h1 := hget i hi
              rw [List.getElem?_eq_getElem (by omega)] at h1
              cases hc : w.cells? base (a.add (i * P.cellsOf e)) (P.cellsOf e) with
              | none => rw [hc] at h1; cases h1
              | some ci =>
                rw [hc] at h1
                obtain ⟨cl, g1, g2, g3⟩ := ih e m ci _ hs2 h1
                exact ⟨cl, ci, rfl, g1, g2, g3 te hte⟩
            obtain ⟨rows, hr1, hr2⟩ := pick_rows each
            refine ⟨[.sl rows], ⟨?_, trivial⟩, ⟨rows, rfl, by omega, fun r hr => ?_⟩, hlen1⟩
            · by_cases h0 : len = 0
              · subst h0
                obtain rfl : rows = [] := List.eq_nil_of_length_eq_zero hr1
                exact .slE a cap
              · obtain ⟨b, off, spot⟩ := a
                have cellat : ∀ i j r c, rows[i]? = some r → r[j]? = some c → ∃ v, w.cell? (Addr.add (Addr.add ⟨b, off, spot⟩ (i * te.sz)) j) = some v ∧ Rel (allΦ w) v c := by
                  intro i j r c h1 h2
                  obtain ⟨ci, g1, g2, g3, g4⟩ := hr2 i r h1
                  obtain ⟨v, hv1, hv2⟩ := g2.get h2
                  rw [hze] at g1
                  have hj : j < te.sz := by have := (List.getElem?_eq_some_iff.1 h2).1; omega
                  have := World.cells?_some g1
                  refine ⟨v, ?_, hv2⟩
                  rw [← hv1]
                  exact this.2.2 j hj
                have hrow0 : ∃ r, rows[0]? = some r := ⟨rows[0]'(by omega), List.getElem?_eq_getElem (by omega)⟩
                obtain ⟨r0, hr0⟩ := hrow0
                obtain ⟨_, _, _, _, hl0⟩ := hr2 0 r0 hr0
                obtain ⟨v0, hv0, _⟩ := cellat 0 0 r0 _ hr0 (List.getElem?_eq_getElem (show 0 < r0.length by omega))
                have hz0 : Addr.add (Addr.add ⟨b, off, spot⟩ (0 * te.sz)) 0 = ⟨b, off, spot⟩ := by simp [Addr.add]
                rw [hz0] at hv0
                have hsp : spot = none := (cell_all hv0).1
                subst hsp
                refine .sl b off len cap te.sz rows (fun i j => ((allΦ w b).bind (·[off + (i * te.sz + j)]?)).getD .nilFunc) hr1 hl (fun r hr => ?_) (fun i j r c h1 h2 => ?_) (fun i j r c h1 h2 => ?_)
                · obtain ⟨i, hi⟩ := List.getElem?_of_mem hr
                  obtain ⟨_, _, _, _, g⟩ := hr2 i r hi
                  exact g
                · obtain ⟨v, hv, _⟩ := cellat i j r c h1 h2
                  have := (cell_all hv).2
                  simp only [Addr.add_lit] at this
                  rw [show off + (i * te.sz + j) = off + i * te.sz + j by omega, this]; rfl
                · obtain ⟨v, hv, hv2⟩ := cellat i j r c h1 h2
                  have := (cell_all hv).2
                  simp only [Addr.add_lit] at this
                  rw [show off + (i * te.sz + j) = off + i * te.sz + j by omega, this]; exact hv2
            · obtain ⟨i, hi⟩ := List.getElem?_of_mem hr
              obtain ⟨_, _, _, g, _⟩ := hr2 i r hi
              exact g
      | struct fs =>
        rw [hkd] at hk hs
        obtain ⟨fields, hu, hfs⟩ := hk
        simp only [Bool.and_eq_true] at hs
        obtain ⟨hs1, hs2⟩ := hs
        cases htl : tile T 0 fs with
        | none => rw [htl] at hs1; cases hs1
        | some tot =>
          rw [htl] at hs1
          have htot := Nat.eq_of_beq_eq_true hs1
          obtain ⟨xs, m, rfl, hx, hlen, hxl, hget⟩ := DataW.trod_struct hu h
          have hall : ∀ f ∈ fs, ∃ y, DataW.trod enc P w base spare held m f.2 ((cs.drop f.1).take (P.cellsOf f.2)) = some y := by
            intro f hf
            rw [← hfs] at hf
            obtain ⟨g, hg, rfl⟩ := List.mem_map.1 hf
            obtain ⟨i, hi⟩ := List.getElem?_of_mem hg
            have hi' : fields[i]? = some g := by rw [← hi]; simp
            have hlt : i < xs.length := by rw [hxl]; exact (Array.getElem?_eq_some_iff.1 hi').1
            exact ⟨xs[i], by rw [hget i g hi', List.getElem?_eq_getElem hlt]⟩
          have main : ∀ (gs : List (Nat × Nat)) (o : Nat), (∀ f ∈ gs, ∃ y, DataW.trod enc P w base spare held m f.2 ((cs.drop f.1).take (P.cellsOf f.2)) = some y) → gs.all (fun f => sup T n f.2) = true → tile T o gs = some tot → cs.length = tot →
              ∃ cl, RelL (allΦ w) (cs.drop o) cl ∧ TyS (TyL T n) gs cl ∧ o + cl.length = tot := by
            intro gs
            induction gs with
            | nil =>
              intro o _ _ h1 h2
              simp only [tile, Option.some.injEq] at h1
              refine ⟨[], ?_, rfl, by simp [h1]⟩
              rw [List.drop_eq_nil_of_le (by omega)]
              trivial
            | cons f gs ihs =>
              intro o hall' hsup h1 h2
              obtain ⟨fo, ft⟩ := f
              rw [tile] at h1
              cases hbe : Nat.beq fo o with
              | false => rw [hbe] at h1; cases h1
              | true =>
                have := Nat.eq_of_beq_eq_true hbe
                subst this
                rw [hbe, cond_true] at h1
                cases htf : T ft with
                | none => rw [htf] at h1; cases h1
                | some tf =>
                  rw [htf] at h1
                  simp only [Option.bind_some] at h1
                  simp only [List.all_cons, Bool.and_eq_true] at hsup
                  obtain ⟨y, hy⟩ := hall' _ (List.mem_cons_self ..)
                  obtain ⟨c1, a1, a2, a3⟩ := ih ft m _ y hsup.1 hy
                  obtain ⟨c2, b1, b2, b3⟩ := ihs (fo + tf.sz) (fun g hg => hall' g (List.mem_cons_of_mem _ hg)) hsup.2 h1 h2
                  have hl1 := a3 tf htf
                  refine ⟨c1 ++ c2, ?_, ⟨c1, c2, rfl, a2, b2⟩, by simp; omega⟩
                  have e : cs.drop fo = (cs.drop fo).take tf.sz ++ cs.drop (fo + tf.sz) := by
                    rw [← List.drop_drop, List.take_append_drop]
                  rw [e]
                  rw [cellsOf_ti hT htf] at a1
                  exact a1.append b1
          obtain ⟨cl, c1, c2, c3⟩ := main fs 0 hall hs2 htl (by rw [hlen, hz, htot])
          refine ⟨cl, by simpa using c1, c2, fun tj hj => ?_⟩
          obtain rfl := Option.some.inj hj
          omega
      | array k e => rw [hkd] at hs; cases hs
      | ptr e => rw [hkd] at hs; cases hs
      | map k e => rw [hkd] at hs; cases hs
      | func => rw [hkd] at hs; cases hs
      | iface => rw [hkd] at hs; cases hs
      | other => rw [hkd] at hs; cases hs
/-- A struct that came in. -/
theorem read_struct {H : Type} {enc : TypeId × Value → H} {w : World} {base b0 : Nat} {spare : Nat → Bool} {held : Bool} {r : Reach} {t : Nat} {fs : Array Field} {v : Value} {d : DataW H} {ps : List MemPlace} (n : Nat) (hu : P.underlying t = some (.struct fs)) (hs : sup T n t = true)
    (hval : Value.okWide P w r b0 t v) (hd : DataW.Trod enc P w base spare held t v d ps) : ∃ cs, PRel (allΦ w) v (.agg cs) ∧ TyL T n t cs := by
  obtain ⟨arr, rfl, _⟩ := okWide_struct hu hval
  obtain ⟨fuel, hf⟩ := hd
  obtain ⟨cl, h1, h2, _⟩ := read hT n t fuel _ _ hs hf
  exact ⟨cl, ⟨arr, rfl, h1⟩, h2⟩
end
theorem rows_map {α : Type} {f : α → List Cell} {p : α → Prop} : ∀ {rows : List (List Cell)}, (∀ r ∈ rows, ∃ v, r = f v ∧ p v) → ∃ l : List α, rows = l.map f ∧ ∀ v ∈ l, p v
  | [], _ => ⟨[], rfl, fun v hv => by cases hv⟩
  | r :: rs, h => by
    obtain ⟨v, rfl, hv⟩ := h r (List.mem_cons_self ..)
    obtain ⟨l, rfl, hl⟩ := rows_map fun s hs => h s (List.mem_cons_of_mem _ hs)
    exact ⟨v :: l, rfl, fun u hu => by cases hu with | head => exact hv | tail _ hm => exact hl u hm⟩
/-- arguments, one after the other -/
def ArgsL (Φ : Frz) : List Value → List PV → Prop
  | [], [] => True
  | v :: vs, p :: ps => PRel Φ v p ∧ ArgsL Φ vs ps
  | _, _ => False
theorem ArgsL.rel {Φ : Frz} : ∀ {vs : List Value} {ps : List PV}, ArgsL Φ vs ps → vs.length = ps.length ∧ ∀ (j : Nat) (p : PV), ps[j]? = some p → ∃ v, vs[j]? = some v ∧ PRel Φ v p
  | [], [], _ => ⟨rfl, fun j p h => by simp at h⟩
  | v :: vs, p :: ps, h => by
    obtain ⟨h1, h2⟩ := ArgsL.rel h.2
    refine ⟨by simp [h1], fun j q hq => ?_⟩
    cases j with
    | zero => simp at hq; exact ⟨v, rfl, hq ▸ h.1⟩
    | succ j => simpa using h2 j q (by simpa using hq)
theorem ArgsRel.of {Φ : Frz} {vs : List Value} {ps : List PV} (h : ArgsL Φ vs ps) : ArgsRel Φ vs.toArray ps := ⟨by simpa using h.rel.1, fun j p hp => by simpa using h.rel.2 j p hp⟩
theorem ArgsL.nil {Φ : Frz} : ArgsL Φ [] [] := trivial
theorem ArgsL.cons {Φ : Frz} {v : Value} {vs : List Value} {p : PV} {ps : List PV} (h : PRel Φ v p) (hs : ArgsL Φ vs ps) : ArgsL Φ (v :: vs) (p :: ps) := ⟨h, hs⟩
end Lf
end
