/-
  Part 13 of what the proof rests on.
-/
import Derived.Test.YtipghibmgfhmpaaGreatDoorTellsS11
import Derived.Test.YtipghibmgfhmpaaGreatDoorTellsS12
section
set_option linter.unusedVariables false
set_option linter.unusedSimpArgs false
set_option maxHeartbeats 8000000
namespace Go.Proofs.YtipghibmgfhmpaaGreatDoor
open Lf Go
attribute [local irreducible] PureOp EffOp Ev RG W Then InBlock Lf.Fin nth App InitE Pick SubE EvL EvD EvP EvR ResL Lf.Lex SubR SubBR FinO FinM ResM ResD FinS val pw digs trimL
section
attribute [local irreducible] sgn mag gcdZ quoZ remZ txtZ readF fullZ fullE
theorem right_sgn {s : Int} {l : List Int} (h : rightB s l = true) : -1 ≤ s ∧ s ≤ 1 := by
  obtain ⟨x, ox, rfl, rfl⟩ := right_num h
  have := sgn_cases x
  omega
theorem qright_ok (s : Int) (l : List Int) (s' : Int) (l' : List Int) (hl : l.length ≤ 9223372036854775807) (hl' : l'.length ≤ 9223372036854775807) : ACalls Tryz.prog 26 [fB s l s' l'] (.pv (cB (rightFB s l s' l'))) := by
  have r1 := rright_ok s l hl
  have r2 := rright_ok s' l' hl'
  have hs2 : rightB s' l' = true → s' ≤ 1 := fun h => (right_sgn h).2
  by_cases hw : (rightB s l = true ∧ rightB s' l' = true) ∧ s' = 1
  case neg =>
    have e : rightFB s l s' l' = false := by
      unfold rightFB
      cases h1 : rightB s l <;> cases h2 : rightB s' l' <;> simp_all
    rw [e]
    generalize rightB s l = b1 at r1 hw
    generalize rightB s' l' = b2 at r2 hw hs2
    have hbad : ((b1 = true ∧ b2 = true) ∧ 1 ≤ s') → False := fun h => hw ⟨h.1, by have := hs2 h.1.2; omega⟩
    refine ACalls.of_W (qs := [cB false]) [2] 33 Tryz.func26 (by kernel_rfl) rfl rfl rfl fun G => ?_
    refine W.initA (hw := ?_)
    repeat' (first | ((first | apply U_ | (apply Ug_; exact rfl; exact rfl) | (apply Ugq_; exact rfl; exact rfl) | apply Lex.u | (apply Lex.g; exact rfl; exact rfl) | (apply Lex.gq; exact rfl; exact rfl)); (first | exact QX.Move TYok | exact QX.Asg TYok | exact QX.Fld TYok | exact QX.Ld TYok | exact QX.Bin TYok | exact QX.Pick TYok | exact QX.Un TYok | exact QX.Ext TYok | (apply Q_calld (r1); exact EvD.auto) | (apply Q_calld (r2); exact EvD.auto)); exact rfl) | refine SX.Alloc TYok (h := ?_) | refine SX.Store TYok (h := ?_) | refine SX.Box TYok (h := ?_) | apply RG.nil | apply Lex.nil | apply Then.n | apply Then.r | apply Then.x | apply InBlock.n | apply InBlock.r | apply InBlock.hit | (apply InBlock.miss; exact rfl) | apply W.seq | apply W.region | apply W.block | apply W.skip | apply W.ret | apply W.exit | (apply S_isnil TYok; exact rfl; exact rfl; exact rfl; exact Ev.auto; intro bn hnil) | (apply RG.gT; exact rfl; exact rfl; (first | assumption | decide)) | (apply RG.gF; exact rfl; exact rfl; (first | assumption | decide | (rw [ne_eq, Bool.not_eq_true]; assumption) | (rw [ne_eq, Bool.not_eq_false]; assumption)); exact rfl) | (apply W.draw2 (id := 4) [0, 0, 3, 7, 15] [[3], [], [29, 30], [31], [32]] 5 [(29, 8), (30, 0), (31, 1610612736), (32, 2147483648), (2, 4294967296)] mixed (by kernel_rfl) rfl rfl) | (refine W.condA (ht := fun hb => ?_) (hf := fun hb => ?_) <;> (try simp at hb) <;> (try (exfalso; first | exact hbad hb | omega))))
    all_goals exact Fin.ret ResL.auto
  obtain ⟨⟨q1, q2⟩, h1⟩ := hw
  have e : rightFB s l s' l' = decide (gcdZ (s * val l) (val l') = 1) := by unfold rightFB; rw [q1, q2, decide_eq_true h1]; simp
  rw [e]
  rw [q1] at r1
  rw [q2] at r2
  obtain ⟨x, ox, rfl, rfl⟩ := right_num q1
  obtain ⟨y, oy, rfl, rfl⟩ := right_num q2
  have cy := sgn_cases y
  have ey : val (digs (mag y)) = y := by rw [val_mag]; omega
  have ex : sgn x * val (digs (mag x)) = x := by rw [val_mag, sgn_mag]
  rw [ex, ey]
  have g1 := rgcdZ_ok x y ox oy
  have og := gcd_lt ox oy
  have o1 := rof_ok 1 (by unfold i64B; omega)
  have c1 := rcmpZ_ok (gcdZ x y) 1 og (i64_ok (by unfold i64B; omega))
  generalize gcdZ x y = g at *
  have hc := cmp_cases g 1
  have e2 : decide (g = 1) = decide (cmpI g 1 = 0) := decide_eq_decide.2 (by omega)
  rw [e2]
  generalize cmpI g 1 = c at *
  refine ACalls.of_W (qs := [cB (decide (c = 0))]) [2] 33 Tryz.func26 (by kernel_rfl) rfl rfl rfl fun G => ?_
  refine W.initA (hw := ?_)
  repeat' (first | ((first | apply U_ | (apply Ug_; exact rfl; exact rfl) | (apply Ugq_; exact rfl; exact rfl) | apply Lex.u | (apply Lex.g; exact rfl; exact rfl) | (apply Lex.gq; exact rfl; exact rfl)); (first | (apply Q_litD TYok; (repeat (first | exact EvR.nil | apply EvR.cons Ev.auto)); exact rfl; exact rfl; exact rfl; exact rfl; exact rfl; exact rfl) | exact QX.Move TYok | exact QX.Asg TYok | exact QX.Fld TYok | exact QX.Ld TYok | exact QX.Bin TYok | exact QX.Pick TYok | exact QX.Un TYok | exact QX.Ext TYok | (apply Q_calld (r1); exact EvD.auto) | (apply Q_calld (r2); exact EvD.auto) | (apply Q_calld (g1); exact EvD.auto) | (apply Q_calld (o1); exact EvD.auto) | (apply Q_calld (c1); exact EvD.auto)); exact rfl) | refine SX.Alloc TYok (h := ?_) | refine SX.Store TYok (h := ?_) | refine SX.Box TYok (h := ?_) | apply RG.nil | apply Lex.nil | apply Then.n | apply Then.r | apply Then.x | apply InBlock.n | apply InBlock.r | apply InBlock.hit | (apply InBlock.miss; exact rfl) | apply W.seq | apply W.region | apply W.block | apply W.skip | apply W.ret | apply W.exit | (apply S_isnil TYok; exact rfl; exact rfl; exact rfl; exact Ev.auto; intro bn hnil) | (apply RG.gT; exact rfl; exact rfl; (first | assumption | decide)) | (apply RG.gF; exact rfl; exact rfl; (first | assumption | decide | (rw [ne_eq, Bool.not_eq_true]; assumption) | (rw [ne_eq, Bool.not_eq_false]; assumption)); exact rfl) | (apply W.draw2 (id := 4) [0, 0, 3, 7, 15] [[3], [], [29, 30], [31], [32]] 5 [(29, 8), (30, 0), (31, 1610612736), (32, 2147483648), (2, 4294967296)] mixed (by kernel_rfl) rfl rfl) | (refine W.condA (ht := fun hb => ?_) (hf := fun hb => ?_) <;> (try simp at hb) <;> (try (exfalso; omega))))
  all_goals exact Fin.ret ResL.auto
theorem qright_yes (r : Rat) (h : okF r) : ACalls Tryz.prog 26 [zF r] (.pv (cB true)) := by
  have hp := den_pos r
  have := qright_ok (sgn r.num) (digs (mag r.num)) (sgn r.den) (digs (mag r.den)) (by have := num_len h.1; omega) (by have := num_len h.2; omega)
  have e : rightFB (sgn r.num) (digs (mag r.num)) (sgn r.den) (digs (mag r.den)) = true := by
    unfold rightFB
    have c := sgn_cases r.den
    rw [num_right h.1, num_right h.2, decide_eq_true (show sgn r.den = 1 by omega), val_mag, val_mag, sgn_mag, show mag r.den = r.den by omega, num_den_gcd]; rfl
  rwa [e] at this
theorem qnew_zero (x : Int) (hx : okZ x) : ACalls Tryz.prog 24 [zB x, zB 0] (.tup [zF0, cI 15]) := by
  have r1 := rright_yes hx
  have r2 := rright_yes okZ.zero
  have e0 := sgn0
  refine ACalls.of_M TYok (qs := [zF0, cI 15]) [.cell 4 26, .tmp 5] 57 Tryz.func24 (by kernel_rfl) rfl rfl rfl fun G => ?_
  refine W.initA (hw := ?_)
  repeat' (first | ((first | apply U_ | (apply Ug_; exact rfl; exact rfl) | (apply Ugq_; exact rfl; exact rfl)); (first | exact QX.Move TYok | exact QX.Asg TYok | exact QX.Fld TYok | exact QX.Ld TYok | exact QX.Bin TYok | exact QX.Pick TYok | exact QX.Un TYok | exact QX.Ext TYok | exact QX.Build TYok | (apply Q_calld (r1); exact EvD.auto) | (apply Q_calld (r2); exact EvD.auto)); exact rfl) | refine SX.Alloc TYok (h := ?_) | refine SX.Store TYok (h := ?_) | refine SX.Box TYok (h := ?_) | apply RG.nil | apply Lex.nil | apply Then.n | apply Then.r | apply Then.x | apply InBlock.n | apply InBlock.r | apply InBlock.hit | (apply InBlock.miss; exact rfl) | apply W.seq | apply W.region | apply W.block | apply W.skip | apply W.ret | apply W.exit | (apply S_isnil TYok; exact rfl; exact rfl; exact rfl; exact Ev.auto; intro bn hnil) | (apply RG.gT; exact rfl; exact rfl; (first | assumption | decide)) | (apply RG.gF; exact rfl; exact rfl; (first | assumption | decide | (rw [ne_eq, Bool.not_eq_true]; assumption) | (rw [ne_eq, Bool.not_eq_false]; assumption)); exact rfl) | (refine W.condA (ht := fun hb => ?_) (hf := fun hb => ?_) <;> (try simp at hb) <;> (try (exfalso; omega))))
  all_goals exact FinM.ret (ResM.cell rfl rfl rfl rfl zeroSubF (ResM.tmp rfl rfl PSub.rfl' ResM.nil))
theorem qnew_pos (x y : Int) (hx : okZ x) (hy : okZ y) (h0 : 0 < y) : ACalls Tryz.prog 24 [zB x, zB y] (.tup [zF2 (quoZ x (gcdZ x y)) (quoZ y (gcdZ x y)), cI 0]) := by
  have r1 := rright_yes hx
  have r2 := rright_yes hy
  have cy := sgn_cases y
  have hg := gcd_pos (x := x) (show y ≠ 0 by omega)
  have og := gcd_lt hx hy
  have g1 := rgcdZ_ok x y hx hy
  have d1 := rdivZ_ok x (gcdZ x y) hx og (by omega)
  have d2 := rdivZ_ok y (gcdZ x y) hy og (by omega)
  generalize quoZ x (gcdZ x y) = a at *
  generalize quoZ y (gcdZ x y) = b at *
  generalize gcdZ x y = g at *
  refine ACalls.of_M TYok (qs := [zF2 a b, cI 0]) [.cell 4 26, .tmp 5] 57 Tryz.func24 (by kernel_rfl) rfl rfl rfl fun G => ?_
  refine W.initA (hw := ?_)
  repeat' (first | ((first | apply U_ | (apply Ug_; exact rfl; exact rfl) | (apply Ugq_; exact rfl; exact rfl)); (first | exact QX.Move TYok | exact QX.Asg TYok | exact QX.Fld TYok | exact QX.Ld TYok | exact QX.Bin TYok | exact QX.Pick TYok | exact QX.Un TYok | exact QX.Ext TYok | exact QX.Build TYok | (apply Q_calld (r1); exact EvD.auto) | (apply Q_calld (r2); exact EvD.auto) | (apply Q_calld (g1); exact EvD.auto) | (apply Q_calld (d1); exact EvD.auto) | (apply Q_calld (d2); exact EvD.auto)); exact rfl) | refine SX.Alloc TYok (h := ?_) | refine SX.Store TYok (h := ?_) | refine SX.Box TYok (h := ?_) | apply RG.nil | apply Lex.nil | apply Then.n | apply Then.r | apply Then.x | apply InBlock.n | apply InBlock.r | apply InBlock.hit | (apply InBlock.miss; exact rfl) | apply W.seq | apply W.region | apply W.block | apply W.skip | apply W.ret | apply W.exit | (apply S_isnil TYok; exact rfl; exact rfl; exact rfl; exact Ev.auto; intro bn hnil) | (apply RG.gT; exact rfl; exact rfl; (first | assumption | decide)) | (apply RG.gF; exact rfl; exact rfl; (first | assumption | decide | (rw [ne_eq, Bool.not_eq_true]; assumption) | (rw [ne_eq, Bool.not_eq_false]; assumption)); exact rfl) | (refine W.condA (ht := fun hb => ?_) (hf := fun hb => ?_) <;> (try simp at hb) <;> (try (exfalso; omega))))
  all_goals exact FinM.ret ResM.auto
theorem qnew_neg (x y : Int) (hx : okZ x) (hy : okZ y) (h0 : y < 0) : ACalls Tryz.prog 24 [zB x, zB y] (.tup [zF2 (quoZ (-x) (gcdZ (-x) (-y))) (quoZ (-y) (gcdZ (-x) (-y))), cI 0]) := by
  have r1 := rright_yes hx
  have r2 := rright_yes hy
  have cy := sgn_cases y
  have n1 := rneg_ok x hx
  have n2 := rneg_ok y hy
  have ox := okZ_neg hx
  have oy := okZ_neg hy
  have hg := gcd_pos (x := -x) (show -y ≠ 0 by omega)
  have og := gcd_lt ox oy
  have g1 := rgcdZ_ok (-x) (-y) ox oy
  have d1 := rdivZ_ok (-x) (gcdZ (-x) (-y)) ox og (by omega)
  have d2 := rdivZ_ok (-y) (gcdZ (-x) (-y)) oy og (by omega)
  generalize quoZ (-x) (gcdZ (-x) (-y)) = a at *
  generalize quoZ (-y) (gcdZ (-x) (-y)) = b at *
  generalize gcdZ (-x) (-y) = g at *
  refine ACalls.of_M TYok (qs := [zF2 a b, cI 0]) [.cell 4 26, .tmp 5] 57 Tryz.func24 (by kernel_rfl) rfl rfl rfl fun G => ?_
  refine W.initA (hw := ?_)
  repeat' (first | ((first | apply U_ | (apply Ug_; exact rfl; exact rfl) | (apply Ugq_; exact rfl; exact rfl)); (first | exact QX.Move TYok | exact QX.Asg TYok | exact QX.Fld TYok | exact QX.Ld TYok | exact QX.Bin TYok | exact QX.Pick TYok | exact QX.Un TYok | exact QX.Ext TYok | exact QX.Build TYok | (apply Q_calld (r1); exact EvD.auto) | (apply Q_calld (r2); exact EvD.auto) | (apply Q_calld (n1); exact EvD.auto) | (apply Q_calld (n2); exact EvD.auto) | (apply Q_calld (g1); exact EvD.auto) | (apply Q_calld (d1); exact EvD.auto) | (apply Q_calld (d2); exact EvD.auto)); exact rfl) | refine SX.Alloc TYok (h := ?_) | refine SX.Store TYok (h := ?_) | refine SX.Box TYok (h := ?_) | apply RG.nil | apply Lex.nil | apply Then.n | apply Then.r | apply Then.x | apply InBlock.n | apply InBlock.r | apply InBlock.hit | (apply InBlock.miss; exact rfl) | apply W.seq | apply W.region | apply W.block | apply W.skip | apply W.ret | apply W.exit | (apply S_isnil TYok; exact rfl; exact rfl; exact rfl; exact Ev.auto; intro bn hnil) | (apply RG.gT; exact rfl; exact rfl; (first | assumption | decide)) | (apply RG.gF; exact rfl; exact rfl; (first | assumption | decide | (rw [ne_eq, Bool.not_eq_true]; assumption) | (rw [ne_eq, Bool.not_eq_false]; assumption)); exact rfl) | (refine W.condA (ht := fun hb => ?_) (hf := fun hb => ?_) <;> (try simp at hb) <;> (try (exfalso; omega))))
  all_goals exact FinM.ret ResM.auto
theorem qnew_ok (x y : Int) (hx : okZ x) (hy : okZ y) (h0 : y ≠ 0) : ACalls Tryz.prog 24 [zB x, zB y] (.tup [zF (Rat.divInt x y), cI 0]) := by
  by_cases h : 0 < y
  · obtain ⟨e1, e2⟩ := divInt_pos (x := x) h
    have := qnew_pos x y hx hy h
    rwa [← e1, ← e2] at this
  · obtain ⟨e1, e2⟩ := divInt_pos (x := -x) (y := -y) (by omega)
    have := qnew_neg x y hx hy (by omega)
    rw [← e1, ← e2, divInt_flip] at this
    exact this
theorem qnew_no (s t : Int) (l m : List Int) (hl : l.length ≤ 9223372036854775807) (hm : m.length ≤ 9223372036854775807) (h : ¬ (rightB s l = true ∧ rightB t m = true)) : ACalls Tryz.prog 24 [aB s l, aB t m] (.tup [zF0, cI 1]) := by
  have h1 := rright_ok s l hl
  have h2 := rright_ok t m hm
  have hbad : (rightB s l = true ∧ rightB t m = true) → False := h
  refine ACalls.of_M TYok (qs := [zF0, cI 1]) [.cell 4 26, .tmp 5] 57 Tryz.func24 (by kernel_rfl) rfl rfl rfl fun G => ?_
  refine W.initA (hw := ?_)
  repeat' (first | ((first | apply U_ | (apply Ug_; exact rfl; exact rfl) | (apply Ugq_; exact rfl; exact rfl)); (first | exact QX.Move TYok | exact QX.Asg TYok | exact QX.Fld TYok | exact QX.Ld TYok | exact QX.Bin TYok | exact QX.Pick TYok | exact QX.Un TYok | exact QX.Ext TYok | exact QX.Build TYok | (apply Q_call (h1); exact EvL.auto; exact rfl) | (apply Q_call (h2); exact EvL.auto; exact rfl)); exact rfl) | refine SX.Alloc TYok (h := ?_) | refine SX.Store TYok (h := ?_) | refine SX.Box TYok (h := ?_) | apply RG.nil | apply Lex.nil | apply Then.n | apply Then.r | apply Then.x | apply InBlock.n | apply InBlock.r | apply InBlock.hit | (apply InBlock.miss; exact rfl) | apply W.seq | apply W.region | apply W.block | apply W.skip | apply W.ret | apply W.exit | (apply S_isnil TYok; exact rfl; exact rfl; exact rfl; exact Ev.auto; intro bn hnil) | (apply RG.gT; exact rfl; exact rfl; (first | assumption | decide)) | (apply RG.gF; exact rfl; exact rfl; (first | assumption | decide | (rw [ne_eq, Bool.not_eq_true]; assumption) | (rw [ne_eq, Bool.not_eq_false]; assumption)); exact rfl) | (refine W.condA (ht := fun hb => ?_) (hf := fun hb => ?_) <;> (try simp at hb) <;> (try (exfalso; first | exact hbad hb | omega))))
  exact FinM.ret (ResM.cell rfl rfl rfl rfl zeroSubF (ResM.tmp rfl rfl PSub.rfl' ResM.nil))
theorem new_no (s t : Int) (l m : List Int) (hl : l.length ≤ 9223372036854775807) (hm : m.length ≤ 9223372036854775807) (h : ¬ (rightB s l = true ∧ rightB t m = true)) : ACalls Tryz.prog 23 [aB s l, aB t m] (.tup [zF0, cI 1]) := by
  have h1 := rightL_ok s l hl
  have h2 := rightL_ok t m hm
  have hbad : (rightB s l = true ∧ rightB t m = true) → False := h
  refine ACalls.of_M TYok (qs := [zF0, cI 1]) [.cell 4 26, .tmp 5] 60 Tryz.func23 (by kernel_rfl) rfl rfl rfl fun G => ?_
  refine W.initA (hw := ?_)
  repeat' (first | ((first | apply U_ | (apply Ug_; exact rfl; exact rfl) | (apply Ugq_; exact rfl; exact rfl) | apply Lex.u | (apply Lex.g; exact rfl; exact rfl) | (apply Lex.gq; exact rfl; exact rfl)); (first | exact QX.Move TYok | exact QX.Asg TYok | exact QX.Fld TYok | exact QX.Ld TYok | exact QX.Bin TYok | exact QX.Pick TYok | exact QX.Un TYok | exact QX.Ext TYok | exact QX.Build TYok | (apply Q_call (h1); exact EvL.auto; exact rfl) | (apply Q_call (h2); exact EvL.auto; exact rfl)); exact rfl) | refine SX.Alloc TYok (h := ?_) | refine SX.Store TYok (h := ?_) | refine SX.Box TYok (h := ?_) | apply RG.nil | apply Lex.nil | apply Then.n | apply Then.r | apply Then.x | apply InBlock.n | apply InBlock.r | apply InBlock.hit | (apply InBlock.miss; exact rfl) | apply W.seq | apply W.region | apply W.block | apply W.skip | apply W.ret | apply W.exit | (apply S_isnil TYok; exact rfl; exact rfl; exact rfl; exact Ev.auto; intro bn hnil) | (apply RG.gT; exact rfl; exact rfl; (first | assumption | decide)) | (apply RG.gF; exact rfl; exact rfl; (first | assumption | decide | (rw [ne_eq, Bool.not_eq_true]; assumption) | (rw [ne_eq, Bool.not_eq_false]; assumption)); exact rfl) | (apply W.draw2 (id := 6) [0, 1, 0, 7, 15, 31] [[2], [33], [3], [35]] 4 [(33, 4), (34, 8589934592), (35, 8), (36, 34359738368)] mixed (by kernel_rfl) rfl rfl) | (refine W.condA (ht := fun hb => ?_) (hf := fun hb => ?_) <;> (try simp at hb) <;> (try (exfalso; first | exact hbad hb | omega))))
  exact FinM.ret (ResM.cell rfl rfl rfl rfl zeroSubF (ResM.tmp rfl rfl PSub.rfl' ResM.nil))
theorem qof_ok (p q : Int) (hp : i64B p) (hq : i64B q) (h0 : q ≠ 0) : ACalls Tryz.prog 20 [cI p, cI q] (.tup [zF (Rat.divInt p q), cI 0]) := by
  have z1 := rof_ok p hp
  have z2 := rof_ok q hq
  have n1 := qnew_ok p q (i64_ok hp) (i64_ok hq) h0
  generalize Rat.divInt p q = r at *
  refine ACalls.of_M TYok (qs := [zF r, cI 0]) [.cell 4 26, .tmp 5] 13 Tryz.func20 (by kernel_rfl) rfl rfl rfl fun G => ?_
  refine W.initA (hw := ?_)
  repeat' (first | ((first | apply U_); (first | exact QX.Move TYok | exact QX.Asg TYok | exact QX.Ext TYok | (apply Q_calld (z1); exact EvD.auto) | (apply Q_calld (z2); exact EvD.auto) | (apply Q_calld (n1); exact EvD.auto)); exact rfl) | refine SX.Alloc TYok (h := ?_) | refine SX.Store TYok (h := ?_) | apply RG.nil | apply Lex.nil | apply Then.n | apply Then.r | apply Then.x | apply InBlock.n | apply InBlock.r | apply InBlock.hit | (apply InBlock.miss; exact rfl) | apply W.seq | apply W.region | apply W.block | apply W.skip | apply W.ret | apply W.exit | (refine W.condA (ht := fun hb => ?_) (hf := fun hb => ?_) <;> (try simp at hb) <;> (try (exfalso; omega))))
  all_goals exact FinM.ret ResM.auto
theorem qof_zero (p : Int) (hp : i64B p) : ACalls Tryz.prog 20 [cI p, cI 0] (.tup [zF0, cI 15]) := by
  have z1 := rof_ok p hp
  have z2 := rof_ok 0 (by unfold i64B; omega)
  have n1 := qnew_zero p (i64_ok hp)
  refine ACalls.of_M TYok (qs := [zF0, cI 15]) [.cell 4 26, .tmp 5] 13 Tryz.func20 (by kernel_rfl) rfl rfl rfl fun G => ?_
  refine W.initA (hw := ?_)
  repeat' (first | ((first | apply U_); (first | exact QX.Move TYok | exact QX.Asg TYok | exact QX.Ext TYok | (apply Q_calld (z1); exact EvD.auto) | (apply Q_calld (z2); exact EvD.auto) | (apply Q_calld (n1); exact EvD.auto)); exact rfl) | refine SX.Alloc TYok (h := ?_) | refine SX.Store TYok (h := ?_) | apply RG.nil | apply Lex.nil | apply Then.n | apply Then.r | apply Then.x | apply InBlock.n | apply InBlock.r | apply InBlock.hit | (apply InBlock.miss; exact rfl) | apply W.seq | apply W.region | apply W.block | apply W.skip | apply W.ret | apply W.exit | (refine W.condA (ht := fun hb => ?_) (hf := fun hb => ?_) <;> (try simp at hb) <;> (try (exfalso; omega))))
  all_goals exact FinM.ret ResM.auto
end
section
attribute [local irreducible] sgn mag gcdZ quoZ remZ txtZ readF fullZ fullE
theorem qmade_yes (p q : Int) (hp : okZ p) (hq : okZ q) (h0 : q ≠ 0) : ACalls Tryz.prog 44 [zB p, zB q, cB false] (.tup [zF (Rat.divInt p q), cI 0]) := by
  have n1 := qnew_ok p q hp hq h0
  generalize Rat.divInt p q = r at *
  refine ACalls.of_M TYok (qs := [zF r, cI 0]) [.cell 6 26, .tmp 7] 15 Tryz.func44 (by kernel_rfl) rfl rfl rfl fun G => ?_
  refine W.initA (hw := ?_)
  repeat' (first | ((first | apply U_); (first | exact QX.Move TYok | exact QX.Asg TYok | exact QX.Ld TYok | exact QX.Ext TYok | exact QX.Build TYok | (apply Q_calld (n1); exact EvD.auto)); exact rfl) | refine SX.Alloc TYok (h := ?_) | refine SX.Store TYok (h := ?_) | refine SX.Box TYok (h := ?_) | apply RG.nil | apply Lex.nil | apply Then.n | apply Then.r | apply Then.x | apply InBlock.n | apply InBlock.r | apply InBlock.hit | (apply InBlock.miss; exact rfl) | apply W.seq | apply W.region | apply W.block | apply W.skip | apply W.ret | apply W.exit | (refine W.condA (ht := fun hb => ?_) (hf := fun hb => ?_) <;> (try simp at hb) <;> (try (exfalso; omega))))
  all_goals exact FinM.ret ResM.auto
theorem qmade_no (p q : Int) : ACalls Tryz.prog 44 [zB p, zB q, cB true] (.tup [zF0, cI 6]) := by
  refine ACalls.of_M TYok (qs := [zF0, cI 6]) [.cell 6 26, .tmp 7] 15 Tryz.func44 (by kernel_rfl) rfl rfl rfl fun G => ?_
  refine W.initA (hw := ?_)
  repeat' (first | ((first | apply U_); (first | exact QX.Move TYok | exact QX.Asg TYok | exact QX.Ld TYok | exact QX.Ext TYok | exact QX.Build TYok); exact rfl) | refine SX.Alloc TYok (h := ?_) | refine SX.Store TYok (h := ?_) | refine SX.Box TYok (h := ?_) | apply RG.nil | apply Lex.nil | apply Then.n | apply Then.r | apply Then.x | apply InBlock.n | apply InBlock.r | apply InBlock.hit | (apply InBlock.miss; exact rfl) | apply W.seq | apply W.region | apply W.block | apply W.skip | apply W.ret | apply W.exit | (refine W.condA (ht := fun hb => ?_) (hf := fun hb => ?_) <;> (try simp at hb) <;> (try (exfalso; omega))))
  all_goals exact FinM.ret (ResM.cell rfl rfl rfl rfl zeroSubF (ResM.tmp rfl rfl PSub.rfl' ResM.nil))
theorem qmul_yes (a b : Rat) (ha : okF a) (hb : okF b) (h : mulOk a b) : ACalls Tryz.prog 16 [zF a, zF b] (.tup [zF (a * b), cI 0]) := by
  obtain ⟨h1, h2⟩ := h
  have r1 := qright_yes a ha
  have r2 := qright_yes b hb
  have m1 := rmulZ_ok a.num b.num ha.1 hb.1
  rw [(full_yes h1).1, (full_yes h1).2] at m1
  have m2 := rmulZ_ok a.den b.den ha.2 hb.2
  rw [(full_yes h2).1, (full_yes h2).2] at m2
  have q1 := qmade_yes _ _ h1 h2 (mul_ne (den_ne a) (den_ne b))
  rw [rat_mul]
  generalize Rat.divInt (a.num * b.num) (a.den * b.den) = r at *
  refine ACalls.of_M TYok (qs := [zF r, cI 0]) [.cell 4 26, .tmp 5] 46 Tryz.func16 (by kernel_rfl) rfl rfl rfl fun G => ?_
  refine W.initA (hw := ?_)
  repeat' (first | ((first | apply U_ | (apply Ug_; exact rfl; exact rfl) | (apply Ugq_; exact rfl; exact rfl)); (first | exact QX.Move TYok | exact QX.Asg TYok | exact QX.Fld TYok | exact QX.Ld TYok | exact QX.Bin TYok | exact QX.Pick TYok | exact QX.Un TYok | exact QX.Ext TYok | exact QX.Build TYok | (apply Q_calld (r1); exact EvD.auto) | (apply Q_calld (r2); exact EvD.auto) | (apply Q_calld (m1); exact EvD.auto) | (apply Q_calld (m2); exact EvD.auto) | (apply Q_calld (q1); exact EvD.auto)); exact rfl) | refine SX.Alloc TYok (h := ?_) | refine SX.Store TYok (h := ?_) | refine SX.Box TYok (h := ?_) | apply RG.nil | apply Lex.nil | apply Then.n | apply Then.r | apply Then.x | apply InBlock.n | apply InBlock.r | apply InBlock.hit | (apply InBlock.miss; exact rfl) | apply W.seq | apply W.region | apply W.block | apply W.skip | apply W.ret | apply W.exit | (apply RG.gT; exact rfl; exact rfl; (first | assumption | decide)) | (apply RG.gF; exact rfl; exact rfl; (first | assumption | decide | (rw [ne_eq, Bool.not_eq_true]; assumption) | (rw [ne_eq, Bool.not_eq_false]; assumption)); exact rfl) | (refine W.condA (ht := fun hb => ?_) (hf := fun hb => ?_) <;> (try simp at hb) <;> (try (exfalso; omega))))
  all_goals exact FinM.ret ResM.auto
theorem fullE_no {z : Int} (h : ¬ okZ z) : ¬ fullE z = 0 := by rw [(full_no h).2]; decide
theorem full_ok (z : Int) : okZ (fullZ z) := by
  by_cases h : okZ z
  · rw [(full_yes h).1]; exact h
  · rw [(full_no h).1]; exact okZ.zero
theorem qmul_no (a b : Rat) (ha : okF a) (hb : okF b) (h : ¬ mulOk a b) : ACalls Tryz.prog 16 [zF a, zF b] (.tup [zF0, cI 6]) := by
  have r1 := qright_yes a ha
  have r2 := qright_yes b hb
  have m1 := rmulZ_ok a.num b.num ha.1 hb.1
  have m2 := rmulZ_ok a.den b.den ha.2 hb.2
  have q1 := qmade_no (fullZ (a.num * b.num)) (fullZ (a.den * b.den))
  have hf : (!decide (fullE (a.num * b.num) = 0) || !decide (fullE (a.den * b.den) = 0)) = true := by
    rw [Bool.or_eq_true, Bool.not_eq_true', Bool.not_eq_true', decide_eq_false_iff_not, decide_eq_false_iff_not]
    unfold mulOk at h
    by_cases k1 : okZ (a.num * b.num)
    · by_cases k2 : okZ (a.den * b.den)
      · exact absurd ⟨k1, k2⟩ h
      · exact .inr (fullE_no k2)
    · exact .inl (fullE_no k1)
  rw [← hf] at q1
  generalize fullZ (a.num * b.num) = w1 at *
  generalize fullE (a.num * b.num) = e1 at *
  generalize fullZ (a.den * b.den) = w2 at *
  generalize fullE (a.den * b.den) = e2 at *
  refine ACalls.of_M TYok (qs := [zF0, cI 6]) [.cell 4 26, .tmp 5] 46 Tryz.func16 (by kernel_rfl) rfl rfl rfl fun G => ?_
  refine W.initA (hw := ?_)
  repeat' (first | ((first | apply U_ | (apply Ug_; exact rfl; exact rfl) | (apply Ugq_; exact rfl; exact rfl)); (first | exact QX.Move TYok | exact QX.Asg TYok | exact QX.Fld TYok | exact QX.Ld TYok | exact QX.Bin TYok | exact QX.Pick TYok | exact QX.Un TYok | exact QX.Ext TYok | exact QX.Build TYok | (apply Q_calld (r1); exact EvD.auto) | (apply Q_calld (r2); exact EvD.auto) | (apply Q_calld (m1); exact EvD.auto) | (apply Q_calld (m2); exact EvD.auto) | (apply Q_calld (q1); exact EvD.auto)); exact rfl) | refine SX.Alloc TYok (h := ?_) | refine SX.Store TYok (h := ?_) | refine SX.Box TYok (h := ?_) | apply RG.nil | apply Lex.nil | apply Then.n | apply Then.r | apply Then.x | apply InBlock.n | apply InBlock.r | apply InBlock.hit | (apply InBlock.miss; exact rfl) | apply W.seq | apply W.region | apply W.block | apply W.skip | apply W.ret | apply W.exit | (apply RG.gT; exact rfl; exact rfl; (first | assumption | decide)) | (apply RG.gF; exact rfl; exact rfl; (first | assumption | decide | (rw [ne_eq, Bool.not_eq_true]; assumption) | (rw [ne_eq, Bool.not_eq_false]; assumption)); exact rfl) | (refine W.condA (ht := fun hb => ?_) (hf := fun hb => ?_) <;> (try simp at hb) <;> (try (exfalso; omega))))
  all_goals exact FinM.ret ResM.auto
theorem qdiv_yes (a b : Rat) (ha : okF a) (hb : okF b) (h0 : b.num ≠ 0) (h : divOk a b) : ACalls Tryz.prog 18 [zF a, zF b] (.tup [zF (a / b), cI 0]) := by
  obtain ⟨h1, h2⟩ := h
  have r1 := qright_yes a ha
  have r2 := qright_yes b hb
  have cb := sgn_cases b.num
  have m1 := rmulZ_ok a.num b.den ha.1 hb.2
  rw [(full_yes h1).1, (full_yes h1).2] at m1
  have m2 := rmulZ_ok a.den b.num ha.2 hb.1
  rw [(full_yes h2).1, (full_yes h2).2] at m2
  have q1 := qmade_yes _ _ h1 h2 (mul_ne (den_ne a) h0)
  rw [rat_div a b h0]
  generalize Rat.divInt (a.num * b.den) (a.den * b.num) = r at *
  refine ACalls.of_M TYok (qs := [zF r, cI 0]) [.cell 4 26, .tmp 5] 51 Tryz.func18 (by kernel_rfl) rfl rfl rfl fun G => ?_
  refine W.initA (hw := ?_)
  repeat' (first | ((first | apply U_ | (apply Ug_; exact rfl; exact rfl) | (apply Ugq_; exact rfl; exact rfl)); (first | exact QX.Move TYok | exact QX.Asg TYok | exact QX.Fld TYok | exact QX.Ld TYok | exact QX.Bin TYok | exact QX.Pick TYok | exact QX.Un TYok | exact QX.Ext TYok | exact QX.Build TYok | (apply Q_calld (r1); exact EvD.auto) | (apply Q_calld (r2); exact EvD.auto) | (apply Q_calld (m1); exact EvD.auto) | (apply Q_calld (m2); exact EvD.auto) | (apply Q_calld (q1); exact EvD.auto)); exact rfl) | refine SX.Alloc TYok (h := ?_) | refine SX.Store TYok (h := ?_) | refine SX.Box TYok (h := ?_) | apply RG.nil | apply Lex.nil | apply Then.n | apply Then.r | apply Then.x | apply InBlock.n | apply InBlock.r | apply InBlock.hit | (apply InBlock.miss; exact rfl) | apply W.seq | apply W.region | apply W.block | apply W.skip | apply W.ret | apply W.exit | (apply S_isnil TYok; exact rfl; exact rfl; exact rfl; exact Ev.auto; intro bn hnil) | (apply RG.gT; exact rfl; exact rfl; (first | assumption | decide)) | (apply RG.gF; exact rfl; exact rfl; (first | assumption | decide | (rw [ne_eq, Bool.not_eq_true]; assumption) | (rw [ne_eq, Bool.not_eq_false]; assumption)); exact rfl) | (refine W.condA (ht := fun hb => ?_) (hf := fun hb => ?_) <;> (try simp at hb) <;> (try (exfalso; omega))))
  all_goals exact FinM.ret ResM.auto
theorem qdiv_zero (a b : Rat) (ha : okF a) (hb : okF b) (h0 : b.num = 0) : ACalls Tryz.prog 18 [zF a, zF b] (.tup [zF0, cI 15]) := by
  have r1 := qright_yes a ha
  have r2 := qright_yes b hb
  have cb := sgn_cases b.num
  refine ACalls.of_M TYok (qs := [zF0, cI 15]) [.cell 4 26, .tmp 5] 51 Tryz.func18 (by kernel_rfl) rfl rfl rfl fun G => ?_
  refine W.initA (hw := ?_)
  repeat' (first | ((first | apply U_ | (apply Ug_; exact rfl; exact rfl) | (apply Ugq_; exact rfl; exact rfl)); (first | exact QX.Move TYok | exact QX.Asg TYok | exact QX.Fld TYok | exact QX.Ld TYok | exact QX.Bin TYok | exact QX.Pick TYok | exact QX.Un TYok | exact QX.Ext TYok | exact QX.Build TYok | (apply Q_calld (r1); exact EvD.auto) | (apply Q_calld (r2); exact EvD.auto)); exact rfl) | refine SX.Alloc TYok (h := ?_) | refine SX.Store TYok (h := ?_) | refine SX.Box TYok (h := ?_) | apply RG.nil | apply Lex.nil | apply Then.n | apply Then.r | apply Then.x | apply InBlock.n | apply InBlock.r | apply InBlock.hit | (apply InBlock.miss; exact rfl) | apply W.seq | apply W.region | apply W.block | apply W.skip | apply W.ret | apply W.exit | (apply S_isnil TYok; exact rfl; exact rfl; exact rfl; exact Ev.auto; intro bn hnil) | (apply RG.gT; exact rfl; exact rfl; (first | assumption | decide)) | (apply RG.gF; exact rfl; exact rfl; (first | assumption | decide | (rw [ne_eq, Bool.not_eq_true]; assumption) | (rw [ne_eq, Bool.not_eq_false]; assumption)); exact rfl) | (refine W.condA (ht := fun hb => ?_) (hf := fun hb => ?_) <;> (try simp at hb) <;> (try (exfalso; omega))))
  all_goals exact FinM.ret (ResM.cell rfl rfl rfl rfl zeroSubF (ResM.tmp rfl rfl PSub.rfl' ResM.nil))
theorem qdiv_no (a b : Rat) (ha : okF a) (hb : okF b) (h0 : b.num ≠ 0) (h : ¬ divOk a b) : ACalls Tryz.prog 18 [zF a, zF b] (.tup [zF0, cI 6]) := by
  have r1 := qright_yes a ha
  have r2 := qright_yes b hb
  have cb := sgn_cases b.num
  have m1 := rmulZ_ok a.num b.den ha.1 hb.2
  have m2 := rmulZ_ok a.den b.num ha.2 hb.1
  have q1 := qmade_no (fullZ (a.num * b.den)) (fullZ (a.den * b.num))
  have hf : (!decide (fullE (a.num * b.den) = 0) || !decide (fullE (a.den * b.num) = 0)) = true := by
    rw [Bool.or_eq_true, Bool.not_eq_true', Bool.not_eq_true', decide_eq_false_iff_not, decide_eq_false_iff_not]
    unfold divOk at h
    by_cases k1 : okZ (a.num * b.den)
    · by_cases k2 : okZ (a.den * b.num)
      · exact absurd ⟨k1, k2⟩ h
      · exact .inr (fullE_no k2)
    · exact .inl (fullE_no k1)
  rw [← hf] at q1
  generalize fullZ (a.num * b.den) = w1 at *
  generalize fullE (a.num * b.den) = e1 at *
  generalize fullZ (a.den * b.num) = w2 at *
  generalize fullE (a.den * b.num) = e2 at *
  refine ACalls.of_M TYok (qs := [zF0, cI 6]) [.cell 4 26, .tmp 5] 51 Tryz.func18 (by kernel_rfl) rfl rfl rfl fun G => ?_
  refine W.initA (hw := ?_)
  repeat' (first | ((first | apply U_ | (apply Ug_; exact rfl; exact rfl) | (apply Ugq_; exact rfl; exact rfl)); (first | exact QX.Move TYok | exact QX.Asg TYok | exact QX.Fld TYok | exact QX.Ld TYok | exact QX.Bin TYok | exact QX.Pick TYok | exact QX.Un TYok | exact QX.Ext TYok | exact QX.Build TYok | (apply Q_calld (r1); exact EvD.auto) | (apply Q_calld (r2); exact EvD.auto) | (apply Q_calld (m1); exact EvD.auto) | (apply Q_calld (m2); exact EvD.auto) | (apply Q_calld (q1); exact EvD.auto)); exact rfl) | refine SX.Alloc TYok (h := ?_) | refine SX.Store TYok (h := ?_) | refine SX.Box TYok (h := ?_) | apply RG.nil | apply Lex.nil | apply Then.n | apply Then.r | apply Then.x | apply InBlock.n | apply InBlock.r | apply InBlock.hit | (apply InBlock.miss; exact rfl) | apply W.seq | apply W.region | apply W.block | apply W.skip | apply W.ret | apply W.exit | (apply S_isnil TYok; exact rfl; exact rfl; exact rfl; exact Ev.auto; intro bn hnil) | (apply RG.gT; exact rfl; exact rfl; (first | assumption | decide)) | (apply RG.gF; exact rfl; exact rfl; (first | assumption | decide | (rw [ne_eq, Bool.not_eq_true]; assumption) | (rw [ne_eq, Bool.not_eq_false]; assumption)); exact rfl) | (refine W.condA (ht := fun hb => ?_) (hf := fun hb => ?_) <;> (try simp at hb) <;> (try (exfalso; omega))))
  all_goals exact FinM.ret ResM.auto
end
section
attribute [local irreducible] sgn mag gcdZ quoZ remZ txtZ readF fullZ fullE
theorem qadd_yes (a b : Rat) (ha : okF a) (hb : okF b) (h : addOk a b) : ACalls Tryz.prog 11 [zF a, zF b] (.tup [zF (a + b), cI 0]) := by
  obtain ⟨⟨h1, h2, h3⟩, h4⟩ := h
  have r1 := qright_yes a ha
  have r2 := qright_yes b hb
  have m1 := rmulZ_ok a.num b.den ha.1 hb.2
  rw [(full_yes h1).1, (full_yes h1).2] at m1
  have m2 := rmulZ_ok b.num a.den hb.1 ha.2
  rw [(full_yes h2).1, (full_yes h2).2] at m2
  have m3 := rmulZ_ok a.den b.den ha.2 hb.2
  rw [(full_yes h4).1, (full_yes h4).2] at m3
  have m4 := raddZ_ok (a.num * b.den) (b.num * a.den) h1 h2
  rw [(full_yes h3).1, (full_yes h3).2] at m4
  have q1 := qmade_yes _ _ h3 h4 (mul_ne (den_ne a) (den_ne b))
  rw [rat_add]
  generalize Rat.divInt (a.num * b.den + b.num * a.den) (a.den * b.den) = r at *
  refine ACalls.of_M TYok (qs := [zF r, cI 0]) [.cell 4 26, .tmp 5] 72 Tryz.func11 (by kernel_rfl) rfl rfl rfl fun G => ?_
  refine W.initA (hw := ?_)
  repeat' (first | ((first | apply U_ | (apply Ug_; exact rfl; exact rfl) | (apply Ugq_; exact rfl; exact rfl)); (first | exact QX.Move TYok | exact QX.Asg TYok | exact QX.Fld TYok | exact QX.Ld TYok | exact QX.Bin TYok | exact QX.Pick TYok | exact QX.Un TYok | exact QX.Ext TYok | exact QX.Build TYok | (apply Q_calld (r1); exact EvD.auto) | (apply Q_calld (r2); exact EvD.auto) | (apply Q_calld (m1); exact EvD.auto) | (apply Q_calld (m2); exact EvD.auto) | (apply Q_calld (m3); exact EvD.auto) | (apply Q_calld (m4); exact EvD.auto) | (apply Q_calld (q1); exact EvD.auto)); exact rfl) | refine SX.Alloc TYok (h := ?_) | refine SX.Store TYok (h := ?_) | refine SX.Box TYok (h := ?_) | apply RG.nil | apply Lex.nil | apply Then.n | apply Then.r | apply Then.x | apply InBlock.n | apply InBlock.r | apply InBlock.hit | (apply InBlock.miss; exact rfl) | apply W.seq | apply W.region | apply W.block | apply W.skip | apply W.ret | apply W.exit | (apply RG.gT; exact rfl; exact rfl; (first | assumption | decide)) | (apply RG.gF; exact rfl; exact rfl; (first | assumption | decide | (rw [ne_eq, Bool.not_eq_true]; assumption) | (rw [ne_eq, Bool.not_eq_false]; assumption)); exact rfl) | (refine W.condA (ht := fun hb => ?_) (hf := fun hb => ?_) <;> (try simp at hb) <;> (try (exfalso; omega))))
  all_goals exact FinM.ret ResM.auto
theorem sub_bad {x y q : Int} {op : Int → Int → Int} (h : ¬ ((okZ x ∧ okZ y ∧ okZ (op x y)) ∧ okZ q)) :
    (((!decide (fullE x = 0) || !decide (fullE y = 0)) || !decide (fullE q = 0)) || !decide (fullE (op (fullZ x) (fullZ y)) = 0)) = true := by
  simp only [Bool.or_eq_true, Bool.not_eq_true', decide_eq_false_iff_not]
  by_cases k1 : okZ x
  · by_cases k2 : okZ y
    · by_cases k3 : okZ q
      · refine .inr ?_
        rw [(full_yes k1).1, (full_yes k2).1]
        exact fullE_no fun k4 => h ⟨⟨k1, k2, k4⟩, k3⟩
      · exact .inl (.inr (fullE_no k3))
    · exact .inl (.inl (.inr (fullE_no k2)))
  · exact .inl (.inl (.inl (fullE_no k1)))
theorem qadd_no (a b : Rat) (ha : okF a) (hb : okF b) (h : ¬ addOk a b) : ACalls Tryz.prog 11 [zF a, zF b] (.tup [zF0, cI 6]) := by
  have r1 := qright_yes a ha
  have r2 := qright_yes b hb
  have m1 := rmulZ_ok a.num b.den ha.1 hb.2
  have m2 := rmulZ_ok b.num a.den hb.1 ha.2
  have m3 := rmulZ_ok a.den b.den ha.2 hb.2
  have m4 := raddZ_ok (fullZ (a.num * b.den)) (fullZ (b.num * a.den)) (full_ok _) (full_ok _)
  have q1 := qmade_no (fullZ (fullZ (a.num * b.den) + fullZ (b.num * a.den))) (fullZ (a.den * b.den))
  rw [← sub_bad (x := a.num * b.den) (y := b.num * a.den) (q := a.den * b.den) (op := fun x y => x + y) h] at q1
  generalize fullZ (fullZ (a.num * b.den) + fullZ (b.num * a.den)) = w4 at *
  generalize fullE (fullZ (a.num * b.den) + fullZ (b.num * a.den)) = e4 at *
  generalize fullZ (a.num * b.den) = w1 at *
  generalize fullE (a.num * b.den) = e1 at *
  generalize fullZ (b.num * a.den) = w2 at *
  generalize fullE (b.num * a.den) = e2 at *
  generalize fullZ (a.den * b.den) = w3 at *
  generalize fullE (a.den * b.den) = e3 at *
  refine ACalls.of_M TYok (qs := [zF0, cI 6]) [.cell 4 26, .tmp 5] 72 Tryz.func11 (by kernel_rfl) rfl rfl rfl fun G => ?_
  refine W.initA (hw := ?_)
  repeat' (first | ((first | apply U_ | (apply Ug_; exact rfl; exact rfl) | (apply Ugq_; exact rfl; exact rfl)); (first | exact QX.Move TYok | exact QX.Asg TYok | exact QX.Fld TYok | exact QX.Ld TYok | exact QX.Bin TYok | exact QX.Pick TYok | exact QX.Un TYok | exact QX.Ext TYok | exact QX.Build TYok | (apply Q_calld (r1); exact EvD.auto) | (apply Q_calld (r2); exact EvD.auto) | (apply Q_calld (m1); exact EvD.auto) | (apply Q_calld (m2); exact EvD.auto) | (apply Q_calld (m3); exact EvD.auto) | (apply Q_calld (m4); exact EvD.auto) | (apply Q_calld (q1); exact EvD.auto)); exact rfl) | refine SX.Alloc TYok (h := ?_) | refine SX.Store TYok (h := ?_) | refine SX.Box TYok (h := ?_) | apply RG.nil | apply Lex.nil | apply Then.n | apply Then.r | apply Then.x | apply InBlock.n | apply InBlock.r | apply InBlock.hit | (apply InBlock.miss; exact rfl) | apply W.seq | apply W.region | apply W.block | apply W.skip | apply W.ret | apply W.exit | (apply RG.gT; exact rfl; exact rfl; (first | assumption | decide)) | (apply RG.gF; exact rfl; exact rfl; (first | assumption | decide | (rw [ne_eq, Bool.not_eq_true]; assumption) | (rw [ne_eq, Bool.not_eq_false]; assumption)); exact rfl) | (refine W.condA (ht := fun hb => ?_) (hf := fun hb => ?_) <;> (try simp at hb) <;> (try (exfalso; omega))))
  all_goals exact FinM.ret ResM.auto
def subOk (a b : Rat) : Prop := (okZ (a.num * b.den) ∧ okZ (b.num * a.den) ∧ okZ (a.num * b.den - b.num * a.den)) ∧ okZ (a.den * b.den)
theorem rat_sub (a b : Rat) : a - b = Rat.divInt (a.num * b.den - b.num * a.den) (a.den * b.den) := by
  rw [Rat.sub_eq_add_neg, rat_add, Rat.neg_num, Rat.neg_den]
  congr 1
  rw [Int.neg_mul]; omega
theorem okZ_negI {x : Int} : okZ (-x) ↔ okZ x := ⟨fun h => by have := okZ_neg h; rwa [Int.neg_neg] at this, okZ_neg⟩
theorem sub_add (a b : Rat) : subOk a b ↔ addOk a (-b) := by
  unfold subOk addOk sumOk
  rw [Rat.neg_num, Rat.neg_den, Int.neg_mul, okZ_negI, show a.num * (b.den : Int) + -(b.num * a.den) = a.num * b.den - b.num * a.den by omega]
theorem qsub_yes (a b : Rat) (ha : okF a) (hb : okF b) (h : subOk a b) : ACalls Tryz.prog 13 [zF a, zF b] (.tup [zF (a - b), cI 0]) := by
  obtain ⟨⟨h1, h2, h3⟩, h4⟩ := h
  have r1 := qright_yes a ha
  have r2 := qright_yes b hb
  have m1 := rmulZ_ok a.num b.den ha.1 hb.2
  rw [(full_yes h1).1, (full_yes h1).2] at m1
  have m2 := rmulZ_ok b.num a.den hb.1 ha.2
  rw [(full_yes h2).1, (full_yes h2).2] at m2
  have m3 := rmulZ_ok a.den b.den ha.2 hb.2
  rw [(full_yes h4).1, (full_yes h4).2] at m3
  have m4 := rsubZ_ok (a.num * b.den) (b.num * a.den) h1 h2
  rw [(full_yes h3).1, (full_yes h3).2] at m4
  have q1 := qmade_yes _ _ h3 h4 (mul_ne (den_ne a) (den_ne b))
  rw [rat_sub]
  generalize Rat.divInt (a.num * b.den - b.num * a.den) (a.den * b.den) = r at *
  refine ACalls.of_M TYok (qs := [zF r, cI 0]) [.cell 4 26, .tmp 5] 72 Tryz.func13 (by kernel_rfl) rfl rfl rfl fun G => ?_
  refine W.initA (hw := ?_)
  repeat' (first | ((first | apply U_ | (apply Ug_; exact rfl; exact rfl) | (apply Ugq_; exact rfl; exact rfl)); (first | exact QX.Move TYok | exact QX.Asg TYok | exact QX.Fld TYok | exact QX.Ld TYok | exact QX.Bin TYok | exact QX.Pick TYok | exact QX.Un TYok | exact QX.Ext TYok | exact QX.Build TYok | (apply Q_calld (r1); exact EvD.auto) | (apply Q_calld (r2); exact EvD.auto) | (apply Q_calld (m1); exact EvD.auto) | (apply Q_calld (m2); exact EvD.auto) | (apply Q_calld (m3); exact EvD.auto) | (apply Q_calld (m4); exact EvD.auto) | (apply Q_calld (q1); exact EvD.auto)); exact rfl) | refine SX.Alloc TYok (h := ?_) | refine SX.Store TYok (h := ?_) | refine SX.Box TYok (h := ?_) | apply RG.nil | apply Lex.nil | apply Then.n | apply Then.r | apply Then.x | apply InBlock.n | apply InBlock.r | apply InBlock.hit | (apply InBlock.miss; exact rfl) | apply W.seq | apply W.region | apply W.block | apply W.skip | apply W.ret | apply W.exit | (apply RG.gT; exact rfl; exact rfl; (first | assumption | decide)) | (apply RG.gF; exact rfl; exact rfl; (first | assumption | decide | (rw [ne_eq, Bool.not_eq_true]; assumption) | (rw [ne_eq, Bool.not_eq_false]; assumption)); exact rfl) | (refine W.condA (ht := fun hb => ?_) (hf := fun hb => ?_) <;> (try simp at hb) <;> (try (exfalso; omega))))
  all_goals exact FinM.ret ResM.auto
theorem qsub_no (a b : Rat) (ha : okF a) (hb : okF b) (h : ¬ subOk a b) : ACalls Tryz.prog 13 [zF a, zF b] (.tup [zF0, cI 6]) := by
  have r1 := qright_yes a ha
  have r2 := qright_yes b hb
  have m1 := rmulZ_ok a.num b.den ha.1 hb.2
  have m2 := rmulZ_ok b.num a.den hb.1 ha.2
  have m3 := rmulZ_ok a.den b.den ha.2 hb.2
  have m4 := rsubZ_ok (fullZ (a.num * b.den)) (fullZ (b.num * a.den)) (full_ok _) (full_ok _)
  have q1 := qmade_no (fullZ (fullZ (a.num * b.den) - fullZ (b.num * a.den))) (fullZ (a.den * b.den))
  rw [← sub_bad (x := a.num * b.den) (y := b.num * a.den) (q := a.den * b.den) (op := fun x y => x - y) h] at q1
  generalize fullZ (fullZ (a.num * b.den) - fullZ (b.num * a.den)) = w4 at *
  generalize fullE (fullZ (a.num * b.den) - fullZ (b.num * a.den)) = e4 at *
  generalize fullZ (a.num * b.den) = w1 at *
  generalize fullE (a.num * b.den) = e1 at *
  generalize fullZ (b.num * a.den) = w2 at *
  generalize fullE (b.num * a.den) = e2 at *
  generalize fullZ (a.den * b.den) = w3 at *
  generalize fullE (a.den * b.den) = e3 at *
  refine ACalls.of_M TYok (qs := [zF0, cI 6]) [.cell 4 26, .tmp 5] 72 Tryz.func13 (by kernel_rfl) rfl rfl rfl fun G => ?_
  refine W.initA (hw := ?_)
  repeat' (first | ((first | apply U_ | (apply Ug_; exact rfl; exact rfl) | (apply Ugq_; exact rfl; exact rfl)); (first | exact QX.Move TYok | exact QX.Asg TYok | exact QX.Fld TYok | exact QX.Ld TYok | exact QX.Bin TYok | exact QX.Pick TYok | exact QX.Un TYok | exact QX.Ext TYok | exact QX.Build TYok | (apply Q_calld (r1); exact EvD.auto) | (apply Q_calld (r2); exact EvD.auto) | (apply Q_calld (m1); exact EvD.auto) | (apply Q_calld (m2); exact EvD.auto) | (apply Q_calld (m3); exact EvD.auto) | (apply Q_calld (m4); exact EvD.auto) | (apply Q_calld (q1); exact EvD.auto)); exact rfl) | refine SX.Alloc TYok (h := ?_) | refine SX.Store TYok (h := ?_) | refine SX.Box TYok (h := ?_) | apply RG.nil | apply Lex.nil | apply Then.n | apply Then.r | apply Then.x | apply InBlock.n | apply InBlock.r | apply InBlock.hit | (apply InBlock.miss; exact rfl) | apply W.seq | apply W.region | apply W.block | apply W.skip | apply W.ret | apply W.exit | (apply RG.gT; exact rfl; exact rfl; (first | assumption | decide)) | (apply RG.gF; exact rfl; exact rfl; (first | assumption | decide | (rw [ne_eq, Bool.not_eq_true]; assumption) | (rw [ne_eq, Bool.not_eq_false]; assumption)); exact rfl) | (refine W.condA (ht := fun hb => ?_) (hf := fun hb => ?_) <;> (try simp at hb) <;> (try (exfalso; omega))))
  all_goals exact FinM.ret ResM.auto
theorem fsub_no (a b : Rat) (ha : okF a) (hb : okF b) (h : ¬ subOk a b) : ACalls Tryz.prog 12 [zF a, zF b] (.tup [zF0, cI 6]) := by
  have r1 := fright_yes a ha
  have r2 := fright_yes b hb
  have n1 := neg_ok b.num hb.1
  have a1 := add_no a (-b) ha (neg_okF hb) (fun k => h ((sub_add a b).2 k))
  rw [show zF (-b) = zF2 (-b.num) b.den by show zF2 (-b).num ((-b).den : Int) = _; rw [Rat.neg_num, Rat.neg_den]] at a1
  refine ACalls.of_M TYok (qs := [zF0, cI 6]) [.cell 4 26, .tmp 5] 25 Tryz.func12 (by kernel_rfl) rfl rfl rfl fun G => ?_
  refine W.initA (hw := ?_)
  repeat' (first | ((first | apply U_ | (apply Ug_; exact rfl; exact rfl) | (apply Ugq_; exact rfl; exact rfl) | apply Lex.u | (apply Lex.g; exact rfl; exact rfl) | (apply Lex.gq; exact rfl; exact rfl)); (first | exact QX.Move TYok | exact QX.Asg TYok | exact QX.Fld TYok | exact QX.Ld TYok | exact QX.Pick TYok | exact QX.Un TYok | exact QX.Ext TYok | exact QX.Build TYok | (apply Q_calld (r1); exact EvD.auto) | (apply Q_calld (r2); exact EvD.auto) | (apply Q_calld (n1); exact EvD.auto) | (apply Q_calld (a1); exact EvD.auto)); exact rfl) | refine SX.Alloc TYok (h := ?_) | refine SX.Store TYok (h := ?_) | refine SX.Box TYok (h := ?_) | apply RG.nil | apply Lex.nil | apply Then.n | apply Then.r | apply Then.x | apply InBlock.n | apply InBlock.r | apply InBlock.hit | (apply InBlock.miss; exact rfl) | apply W.seq | apply W.region | apply W.block | apply W.skip | apply W.ret | apply W.exit | (apply RG.gT; exact rfl; exact rfl; (first | assumption | decide)) | (apply RG.gF; exact rfl; exact rfl; (first | assumption | decide | (rw [ne_eq, Bool.not_eq_true]; assumption) | (rw [ne_eq, Bool.not_eq_false]; assumption)); exact rfl) | (apply W.draw2 (id := 3) [0, 0, 2, 6, 0, 16, 62, 127, 255, 255, 1023, 2047] [[2], [3], [16], [17], [3], [19], [18, 20], [15, 21], [22], [22]] 10 [(15, 4), (16, 8), (17, 65536), (18, 131072), (19, 8), (20, 524288), (21, 1310720), (22, 2129920), (23, 4194304), (24, 4194304)] mixed (by kernel_rfl) rfl rfl) | (refine W.condA (ht := fun hb => ?_) (hf := fun hb => ?_) <;> (try simp at hb) <;> (try (exfalso; omega))))
  all_goals exact FinM.ret ResM.auto
theorem fmul_no (a b : Rat) (ha : okF a) (hb : okF b) (h : ¬ mulOk a b) : ACalls Tryz.prog 15 [zF a, zF b] (.tup [zF0, cI 6]) := by
  have r1 := fright_yes a ha
  have r2 := fright_yes b hb
  have m1 := mulZ_ok a.num b.num ha.1 hb.1
  have m2 := mulZ_ok a.den b.den ha.2 hb.2
  have q1 := quot_no (fullZ (a.num * b.num)) (fullE (a.num * b.num)) (fullZ (a.den * b.den)) (fullE (a.den * b.den)) (by
    unfold mulOk at h
    by_cases k1 : okZ (a.num * b.num)
    · by_cases k2 : okZ (a.den * b.den)
      · exact absurd ⟨k1, k2⟩ h
      · exact .inr (fullE_no k2)
    · exact .inl (fullE_no k1))
  generalize fullZ (a.num * b.num) = w1 at *
  generalize fullE (a.num * b.num) = e1 at *
  generalize fullZ (a.den * b.den) = w2 at *
  generalize fullE (a.den * b.den) = e2 at *
  refine ACalls.of_M TYok (qs := [zF0, cI 6]) [.cell 4 26, .tmp 5] 42 Tryz.func15 (by kernel_rfl) rfl rfl rfl fun G => ?_
  refine W.initA (hw := ?_)
  repeat' (first | ((first | apply U_ | (apply Ug_; exact rfl; exact rfl) | (apply Ugq_; exact rfl; exact rfl)); (first | exact QX.Move TYok | exact QX.Asg TYok | exact QX.Fld TYok | exact QX.Ld TYok | exact QX.Pick TYok | exact QX.Un TYok | exact QX.Ext TYok | exact QX.Build TYok | (apply Q_calld (r1); exact EvD.auto) | (apply Q_calld (r2); exact EvD.auto) | (apply Q_calld (m1); exact EvD.auto) | (apply Q_calld (m2); exact EvD.auto) | (apply Q_calld (q1); exact EvD.auto)); exact rfl) | refine SX.Alloc TYok (h := ?_) | refine SX.Store TYok (h := ?_) | refine SX.Box TYok (h := ?_) | apply RG.nil | apply Lex.nil | apply Then.n | apply Then.r | apply Then.x | apply InBlock.n | apply InBlock.r | apply InBlock.hit | (apply InBlock.miss; exact rfl) | apply W.seq | apply W.region | apply W.block | apply W.skip | apply W.ret | apply W.exit | (apply RG.gT; exact rfl; exact rfl; (first | assumption | decide)) | (apply RG.gF; exact rfl; exact rfl; (first | assumption | decide | (rw [ne_eq, Bool.not_eq_true]; assumption) | (rw [ne_eq, Bool.not_eq_false]; assumption)); exact rfl) | (refine W.condA (ht := fun hb => ?_) (hf := fun hb => ?_) <;> (try simp at hb) <;> (try (exfalso; omega))))
  all_goals exact FinM.ret ResM.auto
theorem fdiv_no (a b : Rat) (ha : okF a) (hb : okF b) (h0 : b.num ≠ 0) (h : ¬ divOk a b) : ACalls Tryz.prog 17 [zF a, zF b] (.tup [zF0, cI 6]) := by
  have r1 := fright_yes a ha
  have r2 := fright_yes b hb
  have cb := sgn_cases b.num
  have m1 := mulZ_ok a.num b.den ha.1 hb.2
  have m2 := mulZ_ok a.den b.num ha.2 hb.1
  have q1 := quot_no (fullZ (a.num * b.den)) (fullE (a.num * b.den)) (fullZ (a.den * b.num)) (fullE (a.den * b.num)) (by
    unfold divOk at h
    by_cases k1 : okZ (a.num * b.den)
    · by_cases k2 : okZ (a.den * b.num)
      · exact absurd ⟨k1, k2⟩ h
      · exact .inr (fullE_no k2)
    · exact .inl (fullE_no k1))
  generalize fullZ (a.num * b.den) = w1 at *
  generalize fullE (a.num * b.den) = e1 at *
  generalize fullZ (a.den * b.num) = w2 at *
  generalize fullE (a.den * b.num) = e2 at *
  refine ACalls.of_M TYok (qs := [zF0, cI 6]) [.cell 4 26, .tmp 5] 49 Tryz.func17 (by kernel_rfl) rfl rfl rfl fun G => ?_
  refine W.initA (hw := ?_)
  repeat' (first | ((first | apply U_ | (apply Ug_; exact rfl; exact rfl) | (apply Ugq_; exact rfl; exact rfl)); (first | exact QX.Move TYok | exact QX.Asg TYok | exact QX.Fld TYok | exact QX.Ld TYok | exact QX.Bin TYok | exact QX.Pick TYok | exact QX.Un TYok | exact QX.Ext TYok | exact QX.Build TYok | (apply Q_calld (r1); exact EvD.auto) | (apply Q_calld (r2); exact EvD.auto) | (apply Q_calld (m1); exact EvD.auto) | (apply Q_calld (m2); exact EvD.auto) | (apply Q_calld (q1); exact EvD.auto)); exact rfl) | refine SX.Alloc TYok (h := ?_) | refine SX.Store TYok (h := ?_) | refine SX.Box TYok (h := ?_) | apply RG.nil | apply Lex.nil | apply Then.n | apply Then.r | apply Then.x | apply InBlock.n | apply InBlock.r | apply InBlock.hit | (apply InBlock.miss; exact rfl) | apply W.seq | apply W.region | apply W.block | apply W.skip | apply W.ret | apply W.exit | (apply S_isnil TYok; exact rfl; exact rfl; exact rfl; exact Ev.auto; intro bn hnil) | (apply RG.gT; exact rfl; exact rfl; (first | assumption | decide)) | (apply RG.gF; exact rfl; exact rfl; (first | assumption | decide | (rw [ne_eq, Bool.not_eq_true]; assumption) | (rw [ne_eq, Bool.not_eq_false]; assumption)); exact rfl) | (refine W.condA (ht := fun hb => ?_) (hf := fun hb => ?_) <;> (try simp at hb) <;> (try (exfalso; omega))))
  all_goals exact FinM.ret ResM.auto
end
end Go.Proofs.YtipghibmgfhmpaaGreatDoor
end
section
set_option linter.unusedVariables false
set_option linter.unusedSimpArgs false
set_option maxHeartbeats 8000000
namespace Go.Proofs.YtipghibmgfhmpaaGreatDoor
open Lf Go
attribute [local irreducible] PureOp EffOp Ev RG W Then InBlock Lf.Fin nth App InitE Pick SubE EvL EvD EvP EvR ResL Lf.Lex SubR SubBR FinO FinM ResM ResD FinS val pw digs trimL
section
attribute [local irreducible] sgn mag gcdZ quoZ remZ txtZ readF fullZ fullE
theorem qbelow_ok (n : Nat) : ∀ p q r s : Int, okZ p → okZ q → okZ r → okZ s → 0 < q → 0 < s → (q + s).toNat ≤ n → ACalls Tryz.prog 60 [zB p, zB q, zB r, zB s] (.pv (cI (cmpI (p * s) (r * q)))) := by
  induction n with
  | zero => intro p q r s _ _ _ _ hq hs hn; exfalso; omega
  | succ n ih =>
    intro p q r s op oq or' os hq hs hn
    have d1 := rdivZ_ok p q op oq (by omega)
    have d2 := rdivZ_ok r s or' os (by omega)
    have k1 := rcmpZ_ok (quoZ p q) (quoZ r s) (okZ_quo op (by omega)) (okZ_quo or' (by omega))
    have hu := (rem_rng (x := p) (y := q) (by omega)).1 hq
    have hv := (rem_rng (x := r) (y := s) (by omega)).1 hs
    have ou := okZ_rem (x := p) oq (by omega)
    have ov := okZ_rem (x := r) os (by omega)
    have cu := sgn_cases (remZ p q)
    have cv := sgn_cases (remZ r s)
    have cc := cmp_cases (quoZ p q) (quoZ r s)
    by_cases h1 : quoZ p q = quoZ r s
    · have e1 := cmp_same h1
      have kc : cmpI (quoZ p q) (quoZ r s) = 0 := by omega
      rw [kc] at k1
      by_cases h2 : remZ p q = 0 ∨ remZ r s = 0
      · have e2 := cmp_end hq hs hu.1 hv.1 h2
        rw [e1, e2]
        have hbad : (¬ sgn (remZ p q) = 0 ∧ ¬ sgn (remZ r s) = 0) → False := fun h => by omega
        generalize quoZ p q = x at *
        generalize remZ p q = u at *
        generalize quoZ r s = y at *
        generalize remZ r s = v at *
        refine ACalls.of_W (qs := [cI (sgn u - sgn v)]) [8] 54 Tryz.func60 (by kernel_rfl) rfl rfl rfl fun G => ?_
        refine W.initA (hw := ?_)
        repeat' (first | ((first | apply U_ | (apply Ug_; exact rfl; exact rfl) | (apply Ugq_; exact rfl; exact rfl)); (first | exact QX.Move TYok | exact QX.Asg TYok | exact QX.Fld TYok | exact QX.Ld TYok | exact QX.Bin TYok | exact QX.Pick TYok | exact QX.Ext TYok | (apply Q_calld (d1); exact EvD.auto) | (apply Q_calld (d2); exact EvD.auto) | (apply Q_calld (k1); exact EvD.auto)); exact rfl) | refine SX.Alloc TYok (h := ?_) | refine SX.Store TYok (h := ?_) | refine SX.Box TYok (h := ?_) | apply RG.nil | apply Lex.nil | apply Then.n | apply Then.r | apply Then.x | apply InBlock.n | apply InBlock.r | apply InBlock.hit | (apply InBlock.miss; exact rfl) | apply W.seq | apply W.region | apply W.block | apply W.skip | apply W.ret | apply W.exit | (apply S_isnil TYok; exact rfl; exact rfl; exact rfl; exact Ev.auto; intro bn hnil) | (apply RG.gT; exact rfl; exact rfl; (first | assumption | decide)) | (apply RG.gF; exact rfl; exact rfl; (first | assumption | decide | (rw [ne_eq, Bool.not_eq_true]; assumption) | (rw [ne_eq, Bool.not_eq_false]; assumption)); exact rfl) | (refine W.condA (ht := fun hb => ?_) (hf := fun hb => ?_) <;> (try simp at hb) <;> (try (exfalso; first | exact hbad hb | omega))))
        all_goals exact Fin.ret ResL.auto
      · have i1 := ih s (remZ r s) q (remZ p q) os ov oq ou (by omega) (by omega) (by omega)
        rw [e1, Int.mul_comm (remZ p q), Int.mul_comm (remZ r s)]
        have hbad : (sgn (remZ p q) = 0 ∨ sgn (remZ r s) = 0) → False := fun h => by omega
        generalize cmpI (s * remZ p q) (q * remZ r s) = c at *
        generalize quoZ p q = x at *
        generalize remZ p q = u at *
        generalize quoZ r s = y at *
        generalize remZ r s = v at *
        refine ACalls.of_W (qs := [cI c]) [8] 54 Tryz.func60 (by kernel_rfl) rfl rfl rfl fun G => ?_
        refine W.initA (hw := ?_)
        repeat' (first | ((first | apply U_ | (apply Ug_; exact rfl; exact rfl) | (apply Ugq_; exact rfl; exact rfl)); (first | exact QX.Move TYok | exact QX.Asg TYok | exact QX.Fld TYok | exact QX.Ld TYok | exact QX.Bin TYok | exact QX.Pick TYok | exact QX.Ext TYok | (apply Q_calld (d1); exact EvD.auto) | (apply Q_calld (d2); exact EvD.auto) | (apply Q_calld (k1); exact EvD.auto) | (apply Q_calld (i1); exact EvD.auto)); exact rfl) | refine SX.Alloc TYok (h := ?_) | refine SX.Store TYok (h := ?_) | refine SX.Box TYok (h := ?_) | apply RG.nil | apply Lex.nil | apply Then.n | apply Then.r | apply Then.x | apply InBlock.n | apply InBlock.r | apply InBlock.hit | (apply InBlock.miss; exact rfl) | apply W.seq | apply W.region | apply W.block | apply W.skip | apply W.ret | apply W.exit | (apply S_isnil TYok; exact rfl; exact rfl; exact rfl; exact Ev.auto; intro bn hnil) | (apply RG.gT; exact rfl; exact rfl; (first | assumption | decide)) | (apply RG.gF; exact rfl; exact rfl; (first | assumption | decide | (rw [ne_eq, Bool.not_eq_true]; assumption) | (rw [ne_eq, Bool.not_eq_false]; assumption)); exact rfl) | (refine W.condA (ht := fun hb => ?_) (hf := fun hb => ?_) <;> (try simp at hb) <;> (try (exfalso; first | exact hbad hb | omega))))
        all_goals exact Fin.ret ResL.auto
    · rw [cmp_quo hq hs h1]
      have hc : ¬ cmpI (quoZ p q) (quoZ r s) = 0 := by omega
      generalize cmpI (quoZ p q) (quoZ r s) = c at *
      generalize quoZ p q = x at *
      generalize remZ p q = u at *
      generalize quoZ r s = y at *
      generalize remZ r s = v at *
      refine ACalls.of_W (qs := [cI c]) [8] 54 Tryz.func60 (by kernel_rfl) rfl rfl rfl fun G => ?_
      refine W.initA (hw := ?_)
      repeat' (first | ((first | apply U_ | (apply Ug_; exact rfl; exact rfl) | (apply Ugq_; exact rfl; exact rfl)); (first | exact QX.Move TYok | exact QX.Asg TYok | exact QX.Fld TYok | exact QX.Ld TYok | exact QX.Bin TYok | exact QX.Pick TYok | exact QX.Ext TYok | (apply Q_calld (d1); exact EvD.auto) | (apply Q_calld (d2); exact EvD.auto) | (apply Q_calld (k1); exact EvD.auto)); exact rfl) | refine SX.Alloc TYok (h := ?_) | refine SX.Store TYok (h := ?_) | refine SX.Box TYok (h := ?_) | apply RG.nil | apply Lex.nil | apply Then.n | apply Then.r | apply Then.x | apply InBlock.n | apply InBlock.r | apply InBlock.hit | (apply InBlock.miss; exact rfl) | apply W.seq | apply W.region | apply W.block | apply W.skip | apply W.ret | apply W.exit | (apply S_isnil TYok; exact rfl; exact rfl; exact rfl; exact Ev.auto; intro bn hnil) | (apply RG.gT; exact rfl; exact rfl; (first | assumption | decide)) | (apply RG.gF; exact rfl; exact rfl; (first | assumption | decide | (rw [ne_eq, Bool.not_eq_true]; assumption) | (rw [ne_eq, Bool.not_eq_false]; assumption)); exact rfl) | (refine W.condA (ht := fun hb => ?_) (hf := fun hb => ?_) <;> (try simp at hb) <;> (try (exfalso; omega))))
      all_goals exact Fin.ret ResL.auto
theorem qcmp_ok (a b : Rat) (ha : okF a) (hb : okF b) : ACalls Tryz.prog 28 [zF a, zF b] (.pv (cI (cmpR a b))) := by
  have r1 := qright_yes a ha
  have r2 := qright_yes b hb
  have b1 := qbelow_ok _ a.num a.den b.num b.den ha.1 ha.2 hb.1 hb.2 (den_pos a) (den_pos b) (Nat.le_refl _)
  unfold cmpR
  generalize cmpI (a.num * b.den) (b.num * a.den) = c at *
  refine ACalls.of_W (qs := [cI c]) [4] 22 Tryz.func28 (by kernel_rfl) rfl rfl rfl fun G => ?_
  refine W.initA (hw := ?_)
  repeat' (first | ((first | apply U_ | (apply Ug_; exact rfl; exact rfl) | (apply Ugq_; exact rfl; exact rfl)); (first | exact QX.Move TYok | exact QX.Asg TYok | exact QX.Fld TYok | exact QX.Ld TYok | exact QX.Pick TYok | exact QX.Un TYok | (apply Q_calld (r1); exact EvD.auto) | (apply Q_calld (r2); exact EvD.auto) | (apply Q_calld (b1); exact EvD.auto)); exact rfl) | refine SX.Box TYok (h := ?_) | apply RG.nil | apply Lex.nil | apply Then.n | apply Then.r | apply Then.x | apply InBlock.n | apply InBlock.r | apply InBlock.hit | (apply InBlock.miss; exact rfl) | apply W.seq | apply W.region | apply W.block | apply W.skip | apply W.ret | apply W.exit | (apply RG.gT; exact rfl; exact rfl; (first | assumption | decide)) | (apply RG.gF; exact rfl; exact rfl; (first | assumption | decide | (rw [ne_eq, Bool.not_eq_true]; assumption) | (rw [ne_eq, Bool.not_eq_false]; assumption)); exact rfl) | (refine W.condA (ht := fun hb => ?_) (hf := fun hb => ?_) <;> (try simp at hb) <;> (try (exfalso; omega))))
  all_goals exact Fin.ret ResL.auto
theorem qfloor_ok (r : Rat) (h : okF r) : ACalls Tryz.prog 33 [zF r] (.pv (zB (quoZ r.num r.den))) := by
  have r1 := qright_yes r h
  have d1 := rdivZ_ok r.num r.den h.1 h.2 (den_ne r)
  refine ACalls.of_M TYok (qs := [zB (quoZ r.num r.den)]) [.cell 2 24] 20 Tryz.func33 (by kernel_rfl) rfl rfl rfl fun G => ?_
  refine W.initA (hw := ?_)
  repeat' (first | ((first | apply U_); (first | exact QX.Move TYok | exact QX.Asg TYok | exact QX.Fld TYok | exact QX.Ld TYok | exact QX.Un TYok | exact QX.Ext TYok | exact QX.Build TYok | (apply Q_calld (r1); exact EvD.auto) | (apply Q_calld (d1); exact EvD.auto)); exact rfl) | refine SX.Alloc TYok (h := ?_) | refine SX.Store TYok (h := ?_) | refine SX.Box TYok (h := ?_) | apply RG.nil | apply Lex.nil | apply Then.n | apply Then.r | apply Then.x | apply InBlock.n | apply InBlock.r | apply InBlock.hit | (apply InBlock.miss; exact rfl) | apply W.seq | apply W.region | apply W.block | apply W.skip | apply W.ret | apply W.exit | (refine W.condA (ht := fun hb => ?_) (hf := fun hb => ?_) <;> (try simp at hb) <;> (try (exfalso; omega))))
  all_goals exact FinM.ret ResM.auto
theorem qfloor_no (s : Int) (l : List Int) (s' : Int) (l' : List Int) (hl : l.length ≤ 9223372036854775807) (hl' : l'.length ≤ 9223372036854775807) (h : rightFB s l s' l' = false) : ACalls Tryz.prog 33 [fB s l s' l'] (.pv (zB 0)) := by
  have r1 := qright_ok s l s' l' hl hl'
  rw [h] at r1
  refine ACalls.of_M TYok (qs := [zB 0]) [.cell 2 24] 20 Tryz.func33 (by kernel_rfl) rfl rfl rfl fun G => ?_
  refine W.initA (hw := ?_)
  repeat' (first | ((first | apply U_); (first | exact QX.Move TYok | exact QX.Asg TYok | exact QX.Fld TYok | exact QX.Ld TYok | exact QX.Un TYok | exact QX.Ext TYok | exact QX.Build TYok | (apply Q_calld (r1); exact EvD.auto)); exact rfl) | refine SX.Alloc TYok (h := ?_) | refine SX.Store TYok (h := ?_) | refine SX.Box TYok (h := ?_) | apply RG.nil | apply Lex.nil | apply Then.n | apply Then.r | apply Then.x | apply InBlock.n | apply InBlock.r | apply InBlock.hit | (apply InBlock.miss; exact rfl) | apply W.seq | apply W.region | apply W.block | apply W.skip | apply W.ret | apply W.exit | (refine W.condA (ht := fun hb => ?_) (hf := fun hb => ?_) <;> (try simp at hb) <;> (try (exfalso; omega))))
  exact FinM.ret (ResM.cell rfl rfl rfl rfl zeroSubZ ResM.nil)
theorem floor_no (s : Int) (l : List Int) (s' : Int) (l' : List Int) (hl : l.length ≤ 9223372036854775807) (hl' : l'.length ≤ 9223372036854775807) (h : rightFB s l s' l' = false) : ACalls Tryz.prog 32 [fB s l s' l'] (.pv (zB 0)) := by
  have r1 := fright_ok s l s' l' hl hl'
  rw [h] at r1
  refine ACalls.of_M TYok (qs := [zB 0]) [.cell 2 24] 20 Tryz.func32 (by kernel_rfl) rfl rfl rfl fun G => ?_
  refine W.initA (hw := ?_)
  repeat' (first | ((first | apply U_); (first | exact QX.Move TYok | exact QX.Asg TYok | exact QX.Fld TYok | exact QX.Ld TYok | exact QX.Un TYok | exact QX.Ext TYok | exact QX.Build TYok | (apply Q_calld (r1); exact EvD.auto)); exact rfl) | refine SX.Alloc TYok (h := ?_) | refine SX.Store TYok (h := ?_) | refine SX.Box TYok (h := ?_) | apply RG.nil | apply Lex.nil | apply Then.n | apply Then.r | apply Then.x | apply InBlock.n | apply InBlock.r | apply InBlock.hit | (apply InBlock.miss; exact rfl) | apply W.seq | apply W.region | apply W.block | apply W.skip | apply W.ret | apply W.exit | (refine W.condA (ht := fun hb => ?_) (hf := fun hb => ?_) <;> (try simp at hb) <;> (try (exfalso; omega))))
  exact FinM.ret (ResM.cell rfl rfl rfl rfl zeroSubZ ResM.nil)
theorem qtext_no (s : Int) (l : List Int) (s' : Int) (l' : List Int) (hl : l.length ≤ 9223372036854775807) (hl' : l'.length ≤ 9223372036854775807) (h : rightFB s l s' l' = false) : ACalls Tryz.prog 30 [fB s l s' l'] (.pv (cS [])) := by
  have r1 := qright_ok s l s' l' hl hl'
  rw [h] at r1
  refine ACalls.of_W (qs := [cS []]) [2] 14 Tryz.func30 (by kernel_rfl) rfl rfl rfl fun G => ?_
  refine W.initA (hw := ?_)
  repeat' (first | ((first | apply U_ | apply Lex.u | (apply Lex.g; exact rfl; exact rfl) | (apply Lex.gq; exact rfl; exact rfl)); (first | exact QX.Asg TYok | exact QX.Fld TYok | exact QX.Ld TYok | exact QX.Bin TYok | exact QX.Un TYok | (apply Q_calld (r1); exact EvD.auto)); exact rfl) | refine SX.Box TYok (h := ?_) | apply RG.nil | apply Lex.nil | apply Then.n | apply Then.r | apply Then.x | apply InBlock.n | apply InBlock.r | apply InBlock.hit | (apply InBlock.miss; exact rfl) | apply W.seq | apply W.region | apply W.block | apply W.skip | apply W.ret | apply W.exit | (apply W.draw2 (id := 3) [0, 1, 3, 7, 0, 16, 55, 127, 255] [[1], [6], [7], [8], [1], [10], [11], [9, 12], [13]] 9 [(6, 2), (7, 64), (8, 128), (9, 256), (10, 2), (11, 1024), (12, 2048), (13, 4608), (2, 8192)] mixed (by kernel_rfl) rfl rfl) | (refine W.condA (ht := fun hb => ?_) (hf := fun hb => ?_) <;> (try simp at hb) <;> (try (exfalso; omega))))
  all_goals exact Fin.ret ResL.auto
theorem qtext_ok (r : Rat) (h : okF r) : ACalls Tryz.prog 30 [zF r] (.pv (cS (txtF r))) := by
  have r1 := qright_yes r h
  have t1 := rtext_ok r.num h.1
  have t2 := rtext_ok r.den h.2
  have l1 := txt_len h.1
  have l2 := txt_len h.2
  unfold txtF
  generalize txtZ r.num = a at *
  generalize txtZ r.den = b at *
  refine ACalls.of_W (qs := [cS (a ++ [47] ++ b)]) [2] 14 Tryz.func30 (by kernel_rfl) rfl rfl rfl fun G => ?_
  refine W.initA (hw := ?_)
  repeat' (first | ((first | apply U_ | apply Lex.u | (apply Lex.g; exact rfl; exact rfl) | (apply Lex.gq; exact rfl; exact rfl)); (first | (apply Q_litD TYok; (repeat (first | exact EvR.nil | apply EvR.cons Ev.auto)); exact rfl; exact rfl; exact rfl; exact rfl; exact rfl; exact rfl) | exact QX.Asg TYok | exact QX.Fld TYok | exact QX.Ld TYok | exact QX.Bin TYok | exact QX.Un TYok | (apply Q_calld (r1); exact EvD.auto) | (apply Q_calld (t1); exact EvD.auto) | (apply Q_calld (t2); exact EvD.auto)); exact rfl) | refine SX.Box TYok (h := ?_) | apply RG.nil | apply Lex.nil | apply Then.n | apply Then.r | apply Then.x | apply InBlock.n | apply InBlock.r | apply InBlock.hit | (apply InBlock.miss; exact rfl) | apply W.seq | apply W.region | apply W.block | apply W.skip | apply W.ret | apply W.exit | (apply W.draw2 (id := 3) [0, 1, 3, 7, 0, 16, 55, 127, 255] [[1], [6], [7], [8], [1], [10], [11], [9, 12], [13]] 9 [(6, 2), (7, 64), (8, 128), (9, 256), (10, 2), (11, 1024), (12, 2048), (13, 4608), (2, 8192)] mixed (by kernel_rfl) rfl rfl) | (refine W.condA (ht := fun hb => ?_) (hf := fun hb => ?_) <;> (try simp at hb) <;> (try (exfalso; omega))))
  all_goals exact Fin.ret ResL.auto
end
section
attribute [local irreducible] sgn mag gcdZ quoZ remZ txtZ readF fullZ fullE
theorem qread_no (s : Str) (hs : s.length ≤ 9223372036854775806) (h : (47 : UInt8) ∉ s) : ACalls Tryz.prog 22 [cS s] (.tup [zF0, cI 2]) := by
  have key : ∀ k, k < s.length → ¬ ((nth s k).toNat : Int) = 47 := fun k hk e => h (by
    have := nth_mem hk
    rwa [show nth s k = 47 from UInt8.toNat_inj.1 (by rw [show (47 : UInt8).toNat = 47 from rfl]; omega)] at this)
  refine ACalls.of_M TYok (qs := [zF0, cI 2]) [.cell 2 26, .tmp 3] 59 Tryz.func22 (by kernel_rfl) rfl rfl rfl fun G => ?_
  refine W.initA (hw := ?_)
  repeat' (first | ((first | apply U_ | (apply Ug_; exact rfl; exact rfl) | (apply Ugq_; exact rfl; exact rfl)); (first | exact QX.Move TYok | exact QX.Asg TYok | exact QX.Ld TYok | exact QX.Bin TYok | exact QX.Pick TYok | exact QX.Len TYok | exact QX.Idxs TYok | exact QX.Ext TYok | exact QX.Build TYok | exact QX.Cut TYok); exact rfl) | refine SX.Alloc TYok (h := ?_) | refine SX.Store TYok (h := ?_) | apply RG.nil | apply Lex.nil | apply Then.n | apply Then.r | apply Then.x | apply InBlock.n | apply InBlock.r | apply InBlock.hit | (apply InBlock.miss; exact rfl) | apply W.seq | apply W.region | apply W.block | apply W.skip | apply W.ret | apply W.exit | (apply S_isnil TYok; exact rfl; exact rfl; exact rfl; exact Ev.auto; intro bn hnil) | (apply RG.gT; exact rfl; exact rfl; (first | assumption | decide)) | (apply RG.gF; exact rfl; exact rfl; (first | assumption | decide | (rw [ne_eq, Bool.not_eq_true]; assumption) | (rw [ne_eq, Bool.not_eq_false]; assumption)); exact rfl) | (refine W.condA (ht := fun hb => ?_) (hf := fun hb => ?_) <;> (try simp at hb) <;> (try (exfalso; omega))))
  apply W.loopP (σ := Nat) 59 [0, 2] (fun k => k ≤ s.length) (fun k => [(4, vI k)]) (fun _ => [(2, ⟨26, 4, [[.int .i64 0, .slnil, .int .i64 0, .slnil]]⟩)]) (fun k => s.length - k) (0)
  case hp => repeat (first | exact Pick.nil | apply Pick.cons rfl)
  case h0 =>
    refine ⟨by omega, ?_⟩
    exact Le.auto
  case round =>
    rintro k g1
    apply W.norm (by repeat (first | exact App.nil | apply App.cons))
    by_cases hk : k < s.length
    · have hkk := key k hk
      repeat' (first | ((first | apply U_ | (apply Ug_; exact rfl; exact rfl) | (apply Ugq_; exact rfl; exact rfl)); (first | exact QX.Move TYok | exact QX.Asg TYok | exact QX.Ld TYok | exact QX.Bin TYok | exact QX.Pick TYok | exact QX.Len TYok | exact QX.Idxs TYok | exact QX.Ext TYok | exact QX.Build TYok | exact QX.Cut TYok); exact rfl) | refine SX.Alloc TYok (h := ?_) | refine SX.Store TYok (h := ?_) | apply RG.nil | apply Lex.nil | apply Then.n | apply Then.r | apply Then.x | apply InBlock.n | apply InBlock.r | apply InBlock.hit | (apply InBlock.miss; exact rfl) | apply W.seq | apply W.region | apply W.block | apply W.skip | apply W.ret | apply W.exit | (apply S_isnil TYok; exact rfl; exact rfl; exact rfl; exact Ev.auto; intro bn hnil) | (apply RG.gT; exact rfl; exact rfl; (first | assumption | decide)) | (apply RG.gF; exact rfl; exact rfl; (first | assumption | decide | (rw [ne_eq, Bool.not_eq_true]; assumption) | (rw [ne_eq, Bool.not_eq_false]; assumption)); exact rfl) | (refine W.condA (ht := fun hb => ?_) (hf := fun hb => ?_) <;> (try simp at hb) <;> (try (exfalso; omega))))
      · refine ⟨k + 1, by omega, ?_, by omega⟩
        exact Le.auto
    · obtain rfl : k = s.length := by omega
      repeat' (first | ((first | apply U_ | (apply Ug_; exact rfl; exact rfl) | (apply Ugq_; exact rfl; exact rfl)); (first | exact QX.Move TYok | exact QX.Asg TYok | exact QX.Ld TYok | exact QX.Bin TYok | exact QX.Pick TYok | exact QX.Len TYok | exact QX.Idxs TYok | exact QX.Ext TYok | exact QX.Build TYok | exact QX.Cut TYok); exact rfl) | refine SX.Alloc TYok (h := ?_) | refine SX.Store TYok (h := ?_) | apply RG.nil | apply Lex.nil | apply Then.n | apply Then.r | apply Then.x | apply InBlock.n | apply InBlock.r | apply InBlock.hit | (apply InBlock.miss; exact rfl) | apply W.seq | apply W.region | apply W.block | apply W.skip | apply W.ret | apply W.exit | (apply S_isnil TYok; exact rfl; exact rfl; exact rfl; exact Ev.auto; intro bn hnil) | (apply RG.gT; exact rfl; exact rfl; (first | assumption | decide)) | (apply RG.gF; exact rfl; exact rfl; (first | assumption | decide | (rw [ne_eq, Bool.not_eq_true]; assumption) | (rw [ne_eq, Bool.not_eq_false]; assumption)); exact rfl) | (refine W.condA (ht := fun hb => ?_) (hf := fun hb => ?_) <;> (try simp at hb) <;> (try (exfalso; omega))))
      exact FinM.ret (ResM.cell rfl rfl rfl rfl zeroSubF (ResM.tmp rfl rfl PSub.rfl' ResM.nil))
theorem cutA_at {s a b : Str} (h : s = a ++ 47 :: b) (h2 : (47 : UInt8) ∉ a) : cutA s = (a, b) := by
  unfold cutA
  rcases index_cases 47 s with ⟨_, k2⟩ | ⟨x, y, k1, k2, k3⟩
  · exact absurd (by rw [h]; simp) k2
  · obtain ⟨rfl, rfl⟩ := app_uniq (by rw [← k1, h]) k2 h2
    rw [if_neg (by omega), k3, h]
    simp
theorem qread_yes (s a b : Str) (hs : s.length ≤ 9223372036854775806) (h : s = a ++ 47 :: b) (h2 : (47 : UInt8) ∉ a) : ACalls Tryz.prog 22 [cS s] (.tup [frV (readFr s), cI (frE (readFr s))]) := by
  have hlen : s.length = a.length + b.length + 1 := by rw [h]; simp; omega
  have hne : ¬ s = [] := fun q => by rw [q] at hlen; simp at hlen
  have hcut := cutA_at h h2
  have key : ∀ k, k < a.length → ¬ ((nth s k).toNat : Int) = 47 := fun k hk e => h2 (by
    have := nth_mem hk
    have e2 : nth s k = nth a k := by rw [h]; unfold nth; rw [List.getD_eq_getElem?_getD, List.getElem?_append_left hk, ← List.getD_eq_getElem?_getD]
    rwa [← e2, show nth s k = 47 from UInt8.toNat_inj.1 (by rw [show (47 : UInt8).toNat = 47 from rfl]; omega)] at this)
  have kat : ((nth s a.length).toNat : Int) = 47 := by rw [h]; simp [nth]
  have e1 : s.take ((a.length : Int)).toNat = a := by rw [h]; simp
  have e2 : s.drop (((a.length : Int)) + 1).toNat = b := by
    rw [show ((a.length : Int) + 1).toNat = a.length + 1 by omega, h]; simp
  have d1 := rread_ok (s.take ((a.length : Int)).toNat) (by rw [e1]; omega)
  have d2 := rread_ok (s.drop (((a.length : Int)) + 1).toNat) (by rw [e2]; omega)
  have f1 : readF (s.take ((a.length : Int)).toNat) = readF a := by rw [e1]
  have f2 : readF (s.drop (((a.length : Int)) + 1).toNat) = readF b := by rw [e2]
  rw [f1] at d1
  rw [f2] at d2
  have op := readF_okZ a
  have oq := readF_okZ b
  have hdef : readFr s = if (readF a).2 = 0 ∧ (readF b).2 = 0 ∧ 0 < (readF b).1 ∧ gcdZ (readF a).1 (readF b).1 = 1 ∧ txtZ (readF a).1 ++ [47] ++ txtZ (readF b).1 = s then some (Rat.divInt (readF a).1 (readF b).1) else none := by
    unfold readFr; rw [hcut]
  clear f1 f2 e1 e2 hcut
  generalize (readF a).1 = p at *
  generalize (readF a).2 = e at *
  generalize (readF b).1 = q at *
  generalize (readF b).2 = f at *
  have hal : a.length < s.length := by omega
  generalize ha : a.length = n at *
  clear h h2 ha hlen
  by_cases hr : 0 < q ∧ gcdZ p q = 1
  · obtain ⟨e1, e2⟩ := rat_of hr.1 hr.2
    have okr : okF (Rat.divInt p q) := ⟨by rw [e1]; exact op, by rw [e2]; exact oq⟩
    have t1 := qtext_ok _ okr
    rw [show zF (Rat.divInt p q) = zF2 p q by show zF2 (Rat.divInt p q).num ((Rat.divInt p q).den : Int) = _; rw [e1, e2]] at t1
    have et : txtF (Rat.divInt p q) = txtZ p ++ [47] ++ txtZ q := by unfold txtF; rw [e1, e2]
    rw [et] at t1
    by_cases hc : (e = 0 ∧ f = 0) ∧ txtZ p ++ [47] ++ txtZ q = s
    · rw [hdef, if_pos ⟨hc.1.1, hc.1.2, hr.1, hr.2, hc.2⟩]
      rw [show frV (some (Rat.divInt p q)) = zF2 p q by show zF2 (Rat.divInt p q).num ((Rat.divInt p q).den : Int) = _; rw [e1, e2], show frE (some (Rat.divInt p q)) = 0 from rfl]
      rw [hc.2] at t1
      obtain ⟨⟨rfl, rfl⟩, -⟩ := hc
      clear hdef et
      refine ACalls.of_M TYok (qs := [zF2 p q, cI 0]) [.cell 2 26, .tmp 3] 59 Tryz.func22 (by kernel_rfl) rfl rfl rfl fun G => ?_
      refine W.initA (hw := ?_)
      repeat' (first | ((first | apply U_ | (apply Ug_; exact rfl; exact rfl) | (apply Ugq_; exact rfl; exact rfl)); (first | exact QX.Move TYok | exact QX.Asg TYok | exact QX.Ld TYok | exact QX.Bin TYok | exact QX.Pick TYok | exact QX.Len TYok | exact QX.Idxs TYok | exact QX.Ext TYok | exact QX.Build TYok | exact QX.Cut TYok); exact rfl) | refine SX.Alloc TYok (h := ?_) | refine SX.Store TYok (h := ?_) | apply RG.nil | apply Lex.nil | apply Then.n | apply Then.r | apply Then.x | apply InBlock.n | apply InBlock.r | apply InBlock.hit | (apply InBlock.miss; exact rfl) | apply W.seq | apply W.region | apply W.block | apply W.skip | apply W.ret | apply W.exit | (apply S_isnil TYok; exact rfl; exact rfl; exact rfl; exact Ev.auto; intro bn hnil) | (apply RG.gT; exact rfl; exact rfl; (first | assumption | decide)) | (apply RG.gF; exact rfl; exact rfl; (first | assumption | decide | (rw [ne_eq, Bool.not_eq_true]; assumption) | (rw [ne_eq, Bool.not_eq_false]; assumption)); exact rfl) | (refine W.condA (ht := fun hb => ?_) (hf := fun hb => ?_) <;> (try simp at hb) <;> (try (exfalso; omega))))
      apply W.loopP (σ := Nat) 59 [0, 2] (fun k => k ≤ n) (fun k => [(4, vI k)]) (fun _ => [(2, ⟨26, 4, [[.int .i64 0, .slnil, .int .i64 0, .slnil]]⟩)]) (fun k => n - k) (0)
      case hp => repeat (first | exact Pick.nil | apply Pick.cons rfl)
      case h0 =>
        refine ⟨by omega, ?_⟩
        exact Le.auto
      case round =>
        rintro k g1
        apply W.norm (by repeat (first | exact App.nil | apply App.cons))
        by_cases hk : k < n
        · have hkk := key k hk
          repeat' (first | (exfalso; omega) | ((first | apply U_ | (apply Ug_; exact rfl; exact rfl) | (apply Ugq_; exact rfl; exact rfl)); (first | exact QX.Move TYok | exact QX.Asg TYok | exact QX.Ld TYok | exact QX.Bin TYok | exact QX.Pick TYok | exact QX.Len TYok | exact QX.Idxs TYok | exact QX.Ext TYok | exact QX.Build TYok | exact QX.Cut TYok); exact rfl) | refine SX.Alloc TYok (h := ?_) | refine SX.Store TYok (h := ?_) | apply RG.nil | apply Lex.nil | apply Then.n | apply Then.r | apply Then.x | apply InBlock.n | apply InBlock.r | apply InBlock.hit | (apply InBlock.miss; exact rfl) | apply W.seq | apply W.region | apply W.block | apply W.skip | apply W.ret | apply W.exit | (apply S_isnil TYok; exact rfl; exact rfl; exact rfl; exact Ev.auto; intro bn hnil) | (apply RG.gT; exact rfl; exact rfl; (first | assumption | decide)) | (apply RG.gF; exact rfl; exact rfl; (first | assumption | decide | (rw [ne_eq, Bool.not_eq_true]; assumption) | (rw [ne_eq, Bool.not_eq_false]; assumption)); exact rfl) | (refine W.condA (ht := fun hb => ?_) (hf := fun hb => ?_) <;> (try simp at hb) <;> (try (exfalso; omega))))
          · refine ⟨k + 1, by omega, ?_, by omega⟩
            exact Le.auto
        · obtain rfl : k = n := by omega
          repeat' (first | (exfalso; omega) | ((first | apply U_ | (apply Ug_; exact rfl; exact rfl) | (apply Ugq_; exact rfl; exact rfl)); (first | exact QX.Move TYok | exact QX.Asg TYok | exact QX.Ld TYok | exact QX.Bin TYok | exact QX.Pick TYok | exact QX.Len TYok | exact QX.Idxs TYok | exact QX.Ext TYok | exact QX.Build TYok | exact QX.Cut TYok | (apply Q_calld (d1); exact EvD.auto) | (apply Q_calld (d2); exact EvD.auto) | (apply Q_calld (t1); exact EvD.auto)); exact rfl) | refine SX.Alloc TYok (h := ?_) | refine SX.Store TYok (h := ?_) | apply RG.nil | apply Lex.nil | apply Then.n | apply Then.r | apply Then.x | apply InBlock.n | apply InBlock.r | apply InBlock.hit | (apply InBlock.miss; exact rfl) | apply W.seq | apply W.region | apply W.block | apply W.skip | apply W.ret | apply W.exit | (apply S_isnil TYok; exact rfl; exact rfl; exact rfl; exact Ev.auto; intro bn hnil) | (apply RG.gT; exact rfl; exact rfl; (first | assumption | decide)) | (apply RG.gF; exact rfl; exact rfl; (first | assumption | decide | (rw [ne_eq, Bool.not_eq_true]; assumption) | (rw [ne_eq, Bool.not_eq_false]; assumption)); exact rfl) | (refine W.condA (ht := fun hb => ?_) (hf := fun hb => ?_) <;> (try simp at hb) <;> (try (exfalso; omega))))
          all_goals first
            | exact FinM.ret ResM.auto
            | trace_state
    · rw [hdef, if_neg (fun h => hc ⟨⟨h.1, h.2.1⟩, h.2.2.2.2⟩)]
      generalize txtZ p ++ [47] ++ txtZ q = tx at *
      have hbad : (e = 0 ∧ f = 0) ∧ tx = s → False := hc
      clear hdef et
      show ACalls Tryz.prog 22 [cS s] (.tup [zF0, cI 2])
      refine ACalls.of_M TYok (qs := [zF0, cI 2]) [.cell 2 26, .tmp 3] 59 Tryz.func22 (by kernel_rfl) rfl rfl rfl fun G => ?_
      refine W.initA (hw := ?_)
      repeat' (first | ((first | apply U_ | (apply Ug_; exact rfl; exact rfl) | (apply Ugq_; exact rfl; exact rfl)); (first | exact QX.Move TYok | exact QX.Asg TYok | exact QX.Ld TYok | exact QX.Bin TYok | exact QX.Pick TYok | exact QX.Len TYok | exact QX.Idxs TYok | exact QX.Ext TYok | exact QX.Build TYok | exact QX.Cut TYok); exact rfl) | refine SX.Alloc TYok (h := ?_) | refine SX.Store TYok (h := ?_) | apply RG.nil | apply Lex.nil | apply Then.n | apply Then.r | apply Then.x | apply InBlock.n | apply InBlock.r | apply InBlock.hit | (apply InBlock.miss; exact rfl) | apply W.seq | apply W.region | apply W.block | apply W.skip | apply W.ret | apply W.exit | (apply S_isnil TYok; exact rfl; exact rfl; exact rfl; exact Ev.auto; intro bn hnil) | (apply RG.gT; exact rfl; exact rfl; (first | assumption | decide)) | (apply RG.gF; exact rfl; exact rfl; (first | assumption | decide | (rw [ne_eq, Bool.not_eq_true]; assumption) | (rw [ne_eq, Bool.not_eq_false]; assumption)); exact rfl) | (refine W.condA (ht := fun hb => ?_) (hf := fun hb => ?_) <;> (try simp at hb) <;> (try (exfalso; omega))))
      apply W.loopP (σ := Nat) 59 [0, 2] (fun k => k ≤ n) (fun k => [(4, vI k)]) (fun _ => [(2, ⟨26, 4, [[.int .i64 0, .slnil, .int .i64 0, .slnil]]⟩)]) (fun k => n - k) (0)
      case hp => repeat (first | exact Pick.nil | apply Pick.cons rfl)
      case h0 =>
        refine ⟨by omega, ?_⟩
        exact Le.auto
      case round =>
        rintro k g1
        apply W.norm (by repeat (first | exact App.nil | apply App.cons))
        by_cases hk : k < n
        · have hkk := key k hk
          repeat' (first | (exfalso; omega) | ((first | apply U_ | (apply Ug_; exact rfl; exact rfl) | (apply Ugq_; exact rfl; exact rfl)); (first | exact QX.Move TYok | exact QX.Asg TYok | exact QX.Ld TYok | exact QX.Bin TYok | exact QX.Pick TYok | exact QX.Len TYok | exact QX.Idxs TYok | exact QX.Ext TYok | exact QX.Build TYok | exact QX.Cut TYok); exact rfl) | refine SX.Alloc TYok (h := ?_) | refine SX.Store TYok (h := ?_) | apply RG.nil | apply Lex.nil | apply Then.n | apply Then.r | apply Then.x | apply InBlock.n | apply InBlock.r | apply InBlock.hit | (apply InBlock.miss; exact rfl) | apply W.seq | apply W.region | apply W.block | apply W.skip | apply W.ret | apply W.exit | (apply S_isnil TYok; exact rfl; exact rfl; exact rfl; exact Ev.auto; intro bn hnil) | (apply RG.gT; exact rfl; exact rfl; (first | assumption | decide)) | (apply RG.gF; exact rfl; exact rfl; (first | assumption | decide | (rw [ne_eq, Bool.not_eq_true]; assumption) | (rw [ne_eq, Bool.not_eq_false]; assumption)); exact rfl) | (refine W.condA (ht := fun hb => ?_) (hf := fun hb => ?_) <;> (try simp at hb) <;> (try (exfalso; omega))))
          · refine ⟨k + 1, by omega, ?_, by omega⟩
            exact Le.auto
        · obtain rfl : k = n := by omega
          repeat' (first | (exfalso; omega) | ((first | apply U_ | (apply Ug_; exact rfl; exact rfl) | (apply Ugq_; exact rfl; exact rfl)); (first | exact QX.Move TYok | exact QX.Asg TYok | exact QX.Ld TYok | exact QX.Bin TYok | exact QX.Pick TYok | exact QX.Len TYok | exact QX.Idxs TYok | exact QX.Ext TYok | exact QX.Build TYok | exact QX.Cut TYok | (apply Q_calld (d1); exact EvD.auto) | (apply Q_calld (d2); exact EvD.auto) | (apply Q_calld (t1); exact EvD.auto)); exact rfl) | refine SX.Alloc TYok (h := ?_) | refine SX.Store TYok (h := ?_) | apply RG.nil | apply Lex.nil | apply Then.n | apply Then.r | apply Then.x | apply InBlock.n | apply InBlock.r | apply InBlock.hit | (apply InBlock.miss; exact rfl) | apply W.seq | apply W.region | apply W.block | apply W.skip | apply W.ret | apply W.exit | (apply S_isnil TYok; exact rfl; exact rfl; exact rfl; exact Ev.auto; intro bn hnil) | (apply RG.gT; exact rfl; exact rfl; (first | assumption | decide)) | (apply RG.gF; exact rfl; exact rfl; (first | assumption | decide | (rw [ne_eq, Bool.not_eq_true]; assumption) | (rw [ne_eq, Bool.not_eq_false]; assumption)); exact rfl) | (refine W.condA (ht := fun hb => ?_) (hf := fun hb => ?_) <;> (try simp at hb) <;> (try (exfalso; first | exact hbad hb | omega))))
          all_goals first
            | exact FinM.ret (ResM.cell rfl rfl rfl rfl zeroSubF (ResM.tmp rfl rfl PSub.rfl' ResM.nil))
            | trace_state
  · rw [hdef, if_neg (fun h => hr ⟨h.2.2.1, h.2.2.2.1⟩)]
    have hno : rightFB (sgn p) (digs (mag p)) (sgn q) (digs (mag q)) = false := by
      have c := sgn_cases q
      cases hx : rightFB (sgn p) (digs (mag p)) (sgn q) (digs (mag q)) with
      | false => rfl
      | true =>
        exfalso
        unfold rightFB at hx
        simp only [Bool.and_eq_true, decide_eq_true_iff] at hx
        obtain ⟨⟨_, h1⟩, hg⟩ := hx
        rw [val_mag, val_mag, sgn_mag, show mag q = q by omega] at hg
        exact hr ⟨by omega, hg⟩
    have lp := num_len op
    have lq := num_len oq
    have t1 := qtext_no (sgn p) (digs (mag p)) (sgn q) (digs (mag q)) (by omega) (by omega) hno
    have hbad : (e = 0 ∧ f = 0) ∧ s = [] → False := fun h => hne h.2
    have hbad2 : (e = 0 ∧ f = 0) ∧ [] = s → False := fun h => hne h.2.symm
    clear hdef hno
    show ACalls Tryz.prog 22 [cS s] (.tup [zF0, cI 2])
    refine ACalls.of_M TYok (qs := [zF0, cI 2]) [.cell 2 26, .tmp 3] 59 Tryz.func22 (by kernel_rfl) rfl rfl rfl fun G => ?_
    refine W.initA (hw := ?_)
    repeat' (first | ((first | apply U_ | (apply Ug_; exact rfl; exact rfl) | (apply Ugq_; exact rfl; exact rfl)); (first | exact QX.Move TYok | exact QX.Asg TYok | exact QX.Ld TYok | exact QX.Bin TYok | exact QX.Pick TYok | exact QX.Len TYok | exact QX.Idxs TYok | exact QX.Ext TYok | exact QX.Build TYok | exact QX.Cut TYok); exact rfl) | refine SX.Alloc TYok (h := ?_) | refine SX.Store TYok (h := ?_) | apply RG.nil | apply Lex.nil | apply Then.n | apply Then.r | apply Then.x | apply InBlock.n | apply InBlock.r | apply InBlock.hit | (apply InBlock.miss; exact rfl) | apply W.seq | apply W.region | apply W.block | apply W.skip | apply W.ret | apply W.exit | (apply S_isnil TYok; exact rfl; exact rfl; exact rfl; exact Ev.auto; intro bn hnil) | (apply RG.gT; exact rfl; exact rfl; (first | assumption | decide)) | (apply RG.gF; exact rfl; exact rfl; (first | assumption | decide | (rw [ne_eq, Bool.not_eq_true]; assumption) | (rw [ne_eq, Bool.not_eq_false]; assumption)); exact rfl) | (refine W.condA (ht := fun hb => ?_) (hf := fun hb => ?_) <;> (try simp at hb) <;> (try (exfalso; omega))))
    apply W.loopP (σ := Nat) 59 [0, 2] (fun k => k ≤ n) (fun k => [(4, vI k)]) (fun _ => [(2, ⟨26, 4, [[.int .i64 0, .slnil, .int .i64 0, .slnil]]⟩)]) (fun k => n - k) (0)
    case hp => repeat (first | exact Pick.nil | apply Pick.cons rfl)
    case h0 =>
      refine ⟨by omega, ?_⟩
      exact Le.auto
    case round =>
      rintro k g1
      apply W.norm (by repeat (first | exact App.nil | apply App.cons))
      by_cases hk : k < n
      · have hkk := key k hk
        repeat' (first | (exfalso; omega) | ((first | apply U_ | (apply Ug_; exact rfl; exact rfl) | (apply Ugq_; exact rfl; exact rfl)); (first | exact QX.Move TYok | exact QX.Asg TYok | exact QX.Ld TYok | exact QX.Bin TYok | exact QX.Pick TYok | exact QX.Len TYok | exact QX.Idxs TYok | exact QX.Ext TYok | exact QX.Build TYok | exact QX.Cut TYok); exact rfl) | refine SX.Alloc TYok (h := ?_) | refine SX.Store TYok (h := ?_) | apply RG.nil | apply Lex.nil | apply Then.n | apply Then.r | apply Then.x | apply InBlock.n | apply InBlock.r | apply InBlock.hit | (apply InBlock.miss; exact rfl) | apply W.seq | apply W.region | apply W.block | apply W.skip | apply W.ret | apply W.exit | (apply S_isnil TYok; exact rfl; exact rfl; exact rfl; exact Ev.auto; intro bn hnil) | (apply RG.gT; exact rfl; exact rfl; (first | assumption | decide)) | (apply RG.gF; exact rfl; exact rfl; (first | assumption | decide | (rw [ne_eq, Bool.not_eq_true]; assumption) | (rw [ne_eq, Bool.not_eq_false]; assumption)); exact rfl) | (refine W.condA (ht := fun hb => ?_) (hf := fun hb => ?_) <;> (try simp at hb) <;> (try (exfalso; omega))))
        · refine ⟨k + 1, by omega, ?_, by omega⟩
          exact Le.auto
      · obtain rfl : k = n := by omega
        repeat' (first | (exfalso; omega) | ((first | apply U_ | (apply Ug_; exact rfl; exact rfl) | (apply Ugq_; exact rfl; exact rfl)); (first | exact QX.Move TYok | exact QX.Asg TYok | exact QX.Ld TYok | exact QX.Bin TYok | exact QX.Pick TYok | exact QX.Len TYok | exact QX.Idxs TYok | exact QX.Ext TYok | exact QX.Build TYok | exact QX.Cut TYok | (apply Q_calld (d1); exact EvD.auto) | (apply Q_calld (d2); exact EvD.auto) | (apply Q_calld (t1); exact EvD.auto)); exact rfl) | refine SX.Alloc TYok (h := ?_) | refine SX.Store TYok (h := ?_) | apply RG.nil | apply Lex.nil | apply Then.n | apply Then.r | apply Then.x | apply InBlock.n | apply InBlock.r | apply InBlock.hit | (apply InBlock.miss; exact rfl) | apply W.seq | apply W.region | apply W.block | apply W.skip | apply W.ret | apply W.exit | (apply S_isnil TYok; exact rfl; exact rfl; exact rfl; exact Ev.auto; intro bn hnil) | (apply RG.gT; exact rfl; exact rfl; (first | assumption | decide)) | (apply RG.gF; exact rfl; exact rfl; (first | assumption | decide | (rw [ne_eq, Bool.not_eq_true]; assumption) | (rw [ne_eq, Bool.not_eq_false]; assumption)); exact rfl) | (refine W.condA (ht := fun hb => ?_) (hf := fun hb => ?_) <;> (try simp at hb) <;> (try (exfalso; first | exact hbad hb | exact hbad2 hb | omega))))
        all_goals first
          | exact FinM.ret (ResM.cell rfl rfl rfl rfl zeroSubF (ResM.tmp rfl rfl PSub.rfl' ResM.nil))
          | trace_state
theorem qread_ok (s : Str) (hs : s.length ≤ 9223372036854775806) : ACalls Tryz.prog 22 [cS s] (.tup [frV (readFr s), cI (frE (readFr s))]) := by
  rcases index_cases 47 s with ⟨k1, k2⟩ | ⟨x, y, k1, k2, k3⟩
  · have e : readFr s = none := by
      unfold readFr
      have hc : cutA s = (s, []) := if_pos k1
      rw [hc, if_neg]
      rintro ⟨_, h, _⟩
      rw [show readF [] = (0, 2) from readF_form (.inl (by decide))] at h
      exact absurd h (by decide)
    rw [e]
    exact qread_no s hs k2
  · exact qread_yes s x y hs k1 k2
end
section
variable (s s' t t' : Int) (l l' m m' : List Int) (hl : l.length ≤ 9223372036854775807) (hl' : l'.length ≤ 9223372036854775807) (hm : m.length ≤ 9223372036854775807) (hm' : m'.length ≤ 9223372036854775807) (h : ¬ (rightFB s l s' l' = true ∧ rightFB t m t' m' = true))
include hl hl' hm hm' h
theorem fadd_arg : ACalls Tryz.prog 10 [fB s l s' l', fB t m t' m'] (.tup [zF0, cI 1]) := by
  have h1 := fright_ok s l s' l' hl hl'
  have h2 := fright_ok t m t' m' hm hm'
  have hbad : (rightFB s l s' l' = true ∧ rightFB t m t' m' = true) → False := h
  generalize rightFB s l s' l' = b1 at *
  generalize rightFB t m t' m' = b2 at *
  refine ACalls.of_M TYok (qs := [zF0, cI 1]) [.cell 4 26, .tmp 5] 46 Tryz.func10 (by kernel_rfl) rfl rfl rfl fun G => ?_
  refine W.initA (hw := ?_)
  repeat' (first | ((first | apply U_ | (apply Ug_; exact rfl; exact rfl) | (apply Ugq_; exact rfl; exact rfl)); (first | exact QX.Move TYok | exact QX.Asg TYok | exact QX.Fld TYok | exact QX.Ld TYok | exact QX.Pick TYok | exact QX.Un TYok | exact QX.Ext TYok | exact QX.Build TYok | (apply Q_calld (h1); exact EvD.auto) | (apply Q_calld (h2); exact EvD.auto)); exact rfl) | refine SX.Alloc TYok (h := ?_) | refine SX.Store TYok (h := ?_) | refine SX.Box TYok (h := ?_) | apply RG.nil | apply Lex.nil | apply Then.n | apply Then.r | apply Then.x | apply InBlock.n | apply InBlock.r | apply InBlock.hit | (apply InBlock.miss; exact rfl) | apply W.seq | apply W.region | apply W.block | apply W.skip | apply W.ret | apply W.exit | (apply RG.gT; exact rfl; exact rfl; (first | assumption | decide)) | (apply RG.gF; exact rfl; exact rfl; (first | assumption | decide | (rw [ne_eq, Bool.not_eq_true]; assumption) | (rw [ne_eq, Bool.not_eq_false]; assumption)); exact rfl) | (refine W.condA (ht := fun hb => ?_) (hf := fun hb => ?_) <;> (try simp at hb) <;> (try (exfalso; first | exact hbad hb | omega))))
  all_goals exact FinM.ret (ResM.cell rfl rfl rfl rfl zeroSubF (ResM.tmp rfl rfl PSub.rfl' ResM.nil))
theorem fsub_arg : ACalls Tryz.prog 12 [fB s l s' l', fB t m t' m'] (.tup [zF0, cI 1]) := by
  have h1 := fright_ok s l s' l' hl hl'
  have h2 := fright_ok t m t' m' hm hm'
  have hbad : (rightFB s l s' l' = true ∧ rightFB t m t' m' = true) → False := h
  generalize rightFB s l s' l' = b1 at *
  generalize rightFB t m t' m' = b2 at *
  refine ACalls.of_M TYok (qs := [zF0, cI 1]) [.cell 4 26, .tmp 5] 25 Tryz.func12 (by kernel_rfl) rfl rfl rfl fun G => ?_
  refine W.initA (hw := ?_)
  repeat' (first | ((first | apply U_ | (apply Ug_; exact rfl; exact rfl) | (apply Ugq_; exact rfl; exact rfl) | apply Lex.u | (apply Lex.g; exact rfl; exact rfl) | (apply Lex.gq; exact rfl; exact rfl)); (first | exact QX.Move TYok | exact QX.Asg TYok | exact QX.Fld TYok | exact QX.Ld TYok | exact QX.Pick TYok | exact QX.Un TYok | exact QX.Ext TYok | exact QX.Build TYok | (apply Q_calld (h1); exact EvD.auto) | (apply Q_calld (h2); exact EvD.auto)); exact rfl) | refine SX.Alloc TYok (h := ?_) | refine SX.Store TYok (h := ?_) | refine SX.Box TYok (h := ?_) | apply RG.nil | apply Lex.nil | apply Then.n | apply Then.r | apply Then.x | apply InBlock.n | apply InBlock.r | apply InBlock.hit | (apply InBlock.miss; exact rfl) | apply W.seq | apply W.region | apply W.block | apply W.skip | apply W.ret | apply W.exit | (apply RG.gT; exact rfl; exact rfl; (first | assumption | decide)) | (apply RG.gF; exact rfl; exact rfl; (first | assumption | decide | (rw [ne_eq, Bool.not_eq_true]; assumption) | (rw [ne_eq, Bool.not_eq_false]; assumption)); exact rfl) | (apply W.draw2 (id := 3) [0, 0, 2, 6, 0, 16, 62, 127, 255, 255, 1023, 2047] [[2], [3], [16], [17], [3], [19], [18, 20], [15, 21], [22], [22]] 10 [(15, 4), (16, 8), (17, 65536), (18, 131072), (19, 8), (20, 524288), (21, 1310720), (22, 2129920), (23, 4194304), (24, 4194304)] mixed (by kernel_rfl) rfl rfl) | (refine W.condA (ht := fun hb => ?_) (hf := fun hb => ?_) <;> (try simp at hb) <;> (try (exfalso; first | exact hbad hb | omega))))
  all_goals exact FinM.ret (ResM.cell rfl rfl rfl rfl zeroSubF (ResM.tmp rfl rfl PSub.rfl' ResM.nil))
theorem fmul_arg : ACalls Tryz.prog 15 [fB s l s' l', fB t m t' m'] (.tup [zF0, cI 1]) := by
  have h1 := fright_ok s l s' l' hl hl'
  have h2 := fright_ok t m t' m' hm hm'
  have hbad : (rightFB s l s' l' = true ∧ rightFB t m t' m' = true) → False := h
  generalize rightFB s l s' l' = b1 at *
  generalize rightFB t m t' m' = b2 at *
  refine ACalls.of_M TYok (qs := [zF0, cI 1]) [.cell 4 26, .tmp 5] 42 Tryz.func15 (by kernel_rfl) rfl rfl rfl fun G => ?_
  refine W.initA (hw := ?_)
  repeat' (first | ((first | apply U_ | (apply Ug_; exact rfl; exact rfl) | (apply Ugq_; exact rfl; exact rfl)); (first | exact QX.Move TYok | exact QX.Asg TYok | exact QX.Fld TYok | exact QX.Ld TYok | exact QX.Pick TYok | exact QX.Un TYok | exact QX.Ext TYok | exact QX.Build TYok | (apply Q_calld (h1); exact EvD.auto) | (apply Q_calld (h2); exact EvD.auto)); exact rfl) | refine SX.Alloc TYok (h := ?_) | refine SX.Store TYok (h := ?_) | refine SX.Box TYok (h := ?_) | apply RG.nil | apply Lex.nil | apply Then.n | apply Then.r | apply Then.x | apply InBlock.n | apply InBlock.r | apply InBlock.hit | (apply InBlock.miss; exact rfl) | apply W.seq | apply W.region | apply W.block | apply W.skip | apply W.ret | apply W.exit | (apply RG.gT; exact rfl; exact rfl; (first | assumption | decide)) | (apply RG.gF; exact rfl; exact rfl; (first | assumption | decide | (rw [ne_eq, Bool.not_eq_true]; assumption) | (rw [ne_eq, Bool.not_eq_false]; assumption)); exact rfl) | (refine W.condA (ht := fun hb => ?_) (hf := fun hb => ?_) <;> (try simp at hb) <;> (try (exfalso; first | exact hbad hb | omega))))
  all_goals exact FinM.ret (ResM.cell rfl rfl rfl rfl zeroSubF (ResM.tmp rfl rfl PSub.rfl' ResM.nil))
theorem fdiv_arg : ACalls Tryz.prog 17 [fB s l s' l', fB t m t' m'] (.tup [zF0, cI 1]) := by
  have h1 := fright_ok s l s' l' hl hl'
  have h2 := fright_ok t m t' m' hm hm'
  have hbad : (rightFB s l s' l' = true ∧ rightFB t m t' m' = true) → False := h
  generalize rightFB s l s' l' = b1 at *
  generalize rightFB t m t' m' = b2 at *
  refine ACalls.of_M TYok (qs := [zF0, cI 1]) [.cell 4 26, .tmp 5] 49 Tryz.func17 (by kernel_rfl) rfl rfl rfl fun G => ?_
  refine W.initA (hw := ?_)
  repeat' (first | ((first | apply U_ | (apply Ug_; exact rfl; exact rfl) | (apply Ugq_; exact rfl; exact rfl)); (first | exact QX.Move TYok | exact QX.Asg TYok | exact QX.Fld TYok | exact QX.Ld TYok | exact QX.Bin TYok | exact QX.Pick TYok | exact QX.Un TYok | exact QX.Ext TYok | exact QX.Build TYok | (apply Q_calld (h1); exact EvD.auto) | (apply Q_calld (h2); exact EvD.auto)); exact rfl) | refine SX.Alloc TYok (h := ?_) | refine SX.Store TYok (h := ?_) | refine SX.Box TYok (h := ?_) | apply RG.nil | apply Lex.nil | apply Then.n | apply Then.r | apply Then.x | apply InBlock.n | apply InBlock.r | apply InBlock.hit | (apply InBlock.miss; exact rfl) | apply W.seq | apply W.region | apply W.block | apply W.skip | apply W.ret | apply W.exit | (apply S_isnil TYok; exact rfl; exact rfl; exact rfl; exact Ev.auto; intro bn hnil) | (apply RG.gT; exact rfl; exact rfl; (first | assumption | decide)) | (apply RG.gF; exact rfl; exact rfl; (first | assumption | decide | (rw [ne_eq, Bool.not_eq_true]; assumption) | (rw [ne_eq, Bool.not_eq_false]; assumption)); exact rfl) | (refine W.condA (ht := fun hb => ?_) (hf := fun hb => ?_) <;> (try simp at hb) <;> (try (exfalso; first | exact hbad hb | omega))))
  all_goals exact FinM.ret (ResM.cell rfl rfl rfl rfl zeroSubF (ResM.tmp rfl rfl PSub.rfl' ResM.nil))
theorem qadd_arg : ACalls Tryz.prog 11 [fB s l s' l', fB t m t' m'] (.tup [zF0, cI 1]) := by
  have h1 := qright_ok s l s' l' hl hl'
  have h2 := qright_ok t m t' m' hm hm'
  have hbad : (rightFB s l s' l' = true ∧ rightFB t m t' m' = true) → False := h
  generalize rightFB s l s' l' = b1 at *
  generalize rightFB t m t' m' = b2 at *
  refine ACalls.of_M TYok (qs := [zF0, cI 1]) [.cell 4 26, .tmp 5] 72 Tryz.func11 (by kernel_rfl) rfl rfl rfl fun G => ?_
  refine W.initA (hw := ?_)
  repeat' (first | ((first | apply U_ | (apply Ug_; exact rfl; exact rfl) | (apply Ugq_; exact rfl; exact rfl)); (first | exact QX.Move TYok | exact QX.Asg TYok | exact QX.Fld TYok | exact QX.Ld TYok | exact QX.Bin TYok | exact QX.Pick TYok | exact QX.Un TYok | exact QX.Ext TYok | exact QX.Build TYok | (apply Q_calld (h1); exact EvD.auto) | (apply Q_calld (h2); exact EvD.auto)); exact rfl) | refine SX.Alloc TYok (h := ?_) | refine SX.Store TYok (h := ?_) | refine SX.Box TYok (h := ?_) | apply RG.nil | apply Lex.nil | apply Then.n | apply Then.r | apply Then.x | apply InBlock.n | apply InBlock.r | apply InBlock.hit | (apply InBlock.miss; exact rfl) | apply W.seq | apply W.region | apply W.block | apply W.skip | apply W.ret | apply W.exit | (apply RG.gT; exact rfl; exact rfl; (first | assumption | decide)) | (apply RG.gF; exact rfl; exact rfl; (first | assumption | decide | (rw [ne_eq, Bool.not_eq_true]; assumption) | (rw [ne_eq, Bool.not_eq_false]; assumption)); exact rfl) | (refine W.condA (ht := fun hb => ?_) (hf := fun hb => ?_) <;> (try simp at hb) <;> (try (exfalso; first | exact hbad hb | omega))))
  all_goals exact FinM.ret (ResM.cell rfl rfl rfl rfl zeroSubF (ResM.tmp rfl rfl PSub.rfl' ResM.nil))
theorem qsub_arg : ACalls Tryz.prog 13 [fB s l s' l', fB t m t' m'] (.tup [zF0, cI 1]) := by
  have h1 := qright_ok s l s' l' hl hl'
  have h2 := qright_ok t m t' m' hm hm'
  have hbad : (rightFB s l s' l' = true ∧ rightFB t m t' m' = true) → False := h
  generalize rightFB s l s' l' = b1 at *
  generalize rightFB t m t' m' = b2 at *
  refine ACalls.of_M TYok (qs := [zF0, cI 1]) [.cell 4 26, .tmp 5] 72 Tryz.func13 (by kernel_rfl) rfl rfl rfl fun G => ?_
  refine W.initA (hw := ?_)
  repeat' (first | ((first | apply U_ | (apply Ug_; exact rfl; exact rfl) | (apply Ugq_; exact rfl; exact rfl)); (first | exact QX.Move TYok | exact QX.Asg TYok | exact QX.Fld TYok | exact QX.Ld TYok | exact QX.Bin TYok | exact QX.Pick TYok | exact QX.Un TYok | exact QX.Ext TYok | exact QX.Build TYok | (apply Q_calld (h1); exact EvD.auto) | (apply Q_calld (h2); exact EvD.auto)); exact rfl) | refine SX.Alloc TYok (h := ?_) | refine SX.Store TYok (h := ?_) | refine SX.Box TYok (h := ?_) | apply RG.nil | apply Lex.nil | apply Then.n | apply Then.r | apply Then.x | apply InBlock.n | apply InBlock.r | apply InBlock.hit | (apply InBlock.miss; exact rfl) | apply W.seq | apply W.region | apply W.block | apply W.skip | apply W.ret | apply W.exit | (apply RG.gT; exact rfl; exact rfl; (first | assumption | decide)) | (apply RG.gF; exact rfl; exact rfl; (first | assumption | decide | (rw [ne_eq, Bool.not_eq_true]; assumption) | (rw [ne_eq, Bool.not_eq_false]; assumption)); exact rfl) | (refine W.condA (ht := fun hb => ?_) (hf := fun hb => ?_) <;> (try simp at hb) <;> (try (exfalso; first | exact hbad hb | omega))))
  all_goals exact FinM.ret (ResM.cell rfl rfl rfl rfl zeroSubF (ResM.tmp rfl rfl PSub.rfl' ResM.nil))
theorem qmul_arg : ACalls Tryz.prog 16 [fB s l s' l', fB t m t' m'] (.tup [zF0, cI 1]) := by
  have h1 := qright_ok s l s' l' hl hl'
  have h2 := qright_ok t m t' m' hm hm'
  have hbad : (rightFB s l s' l' = true ∧ rightFB t m t' m' = true) → False := h
  generalize rightFB s l s' l' = b1 at *
  generalize rightFB t m t' m' = b2 at *
  refine ACalls.of_M TYok (qs := [zF0, cI 1]) [.cell 4 26, .tmp 5] 46 Tryz.func16 (by kernel_rfl) rfl rfl rfl fun G => ?_
  refine W.initA (hw := ?_)
  repeat' (first | ((first | apply U_ | (apply Ug_; exact rfl; exact rfl) | (apply Ugq_; exact rfl; exact rfl)); (first | exact QX.Move TYok | exact QX.Asg TYok | exact QX.Fld TYok | exact QX.Ld TYok | exact QX.Bin TYok | exact QX.Pick TYok | exact QX.Un TYok | exact QX.Ext TYok | exact QX.Build TYok | (apply Q_calld (h1); exact EvD.auto) | (apply Q_calld (h2); exact EvD.auto)); exact rfl) | refine SX.Alloc TYok (h := ?_) | refine SX.Store TYok (h := ?_) | refine SX.Box TYok (h := ?_) | apply RG.nil | apply Lex.nil | apply Then.n | apply Then.r | apply Then.x | apply InBlock.n | apply InBlock.r | apply InBlock.hit | (apply InBlock.miss; exact rfl) | apply W.seq | apply W.region | apply W.block | apply W.skip | apply W.ret | apply W.exit | (apply RG.gT; exact rfl; exact rfl; (first | assumption | decide)) | (apply RG.gF; exact rfl; exact rfl; (first | assumption | decide | (rw [ne_eq, Bool.not_eq_true]; assumption) | (rw [ne_eq, Bool.not_eq_false]; assumption)); exact rfl) | (refine W.condA (ht := fun hb => ?_) (hf := fun hb => ?_) <;> (try simp at hb) <;> (try (exfalso; first | exact hbad hb | omega))))
  all_goals exact FinM.ret (ResM.cell rfl rfl rfl rfl zeroSubF (ResM.tmp rfl rfl PSub.rfl' ResM.nil))
theorem qdiv_arg : ACalls Tryz.prog 18 [fB s l s' l', fB t m t' m'] (.tup [zF0, cI 1]) := by
  have h1 := qright_ok s l s' l' hl hl'
  have h2 := qright_ok t m t' m' hm hm'
  have hbad : (rightFB s l s' l' = true ∧ rightFB t m t' m' = true) → False := h
  generalize rightFB s l s' l' = b1 at *
  generalize rightFB t m t' m' = b2 at *
  refine ACalls.of_M TYok (qs := [zF0, cI 1]) [.cell 4 26, .tmp 5] 51 Tryz.func18 (by kernel_rfl) rfl rfl rfl fun G => ?_
  refine W.initA (hw := ?_)
  repeat' (first | ((first | apply U_ | (apply Ug_; exact rfl; exact rfl) | (apply Ugq_; exact rfl; exact rfl)); (first | exact QX.Move TYok | exact QX.Asg TYok | exact QX.Fld TYok | exact QX.Ld TYok | exact QX.Bin TYok | exact QX.Pick TYok | exact QX.Un TYok | exact QX.Ext TYok | exact QX.Build TYok | (apply Q_calld (h1); exact EvD.auto) | (apply Q_calld (h2); exact EvD.auto)); exact rfl) | refine SX.Alloc TYok (h := ?_) | refine SX.Store TYok (h := ?_) | refine SX.Box TYok (h := ?_) | apply RG.nil | apply Lex.nil | apply Then.n | apply Then.r | apply Then.x | apply InBlock.n | apply InBlock.r | apply InBlock.hit | (apply InBlock.miss; exact rfl) | apply W.seq | apply W.region | apply W.block | apply W.skip | apply W.ret | apply W.exit | (apply S_isnil TYok; exact rfl; exact rfl; exact rfl; exact Ev.auto; intro bn hnil) | (apply RG.gT; exact rfl; exact rfl; (first | assumption | decide)) | (apply RG.gF; exact rfl; exact rfl; (first | assumption | decide | (rw [ne_eq, Bool.not_eq_true]; assumption) | (rw [ne_eq, Bool.not_eq_false]; assumption)); exact rfl) | (refine W.condA (ht := fun hb => ?_) (hf := fun hb => ?_) <;> (try simp at hb) <;> (try (exfalso; first | exact hbad hb | omega))))
  all_goals exact FinM.ret (ResM.cell rfl rfl rfl rfl zeroSubF (ResM.tmp rfl rfl PSub.rfl' ResM.nil))
theorem fcmp_arg : ACalls Tryz.prog 27 [fB s l s' l', fB t m t' m'] (.pv (cI 0)) := by
  have h1 := fright_ok s l s' l' hl hl'
  have h2 := fright_ok t m t' m' hm hm'
  have hbad : (rightFB s l s' l' = true ∧ rightFB t m t' m' = true) → False := h
  generalize rightFB s l s' l' = b1 at *
  generalize rightFB t m t' m' = b2 at *
  refine ACalls.of_W (qs := [cI 0]) [4] 78 Tryz.func27 (by kernel_rfl) rfl rfl rfl fun G => ?_
  refine W.initA (hw := ?_)
  repeat' (first | ((first | apply U_ | (apply Ug_; exact rfl; exact rfl) | (apply Ugq_; exact rfl; exact rfl)); (first | exact QX.Move TYok | exact QX.Asg TYok | exact QX.Fld TYok | exact QX.Ld TYok | exact QX.Bin TYok | exact QX.Pick TYok | exact QX.Un TYok | exact QX.Ext TYok | (apply Q_calld (h1); exact EvD.auto) | (apply Q_calld (h2); exact EvD.auto)); exact rfl) | refine SX.Alloc TYok (h := ?_) | refine SX.Store TYok (h := ?_) | refine SX.Box TYok (h := ?_) | apply RG.nil | apply Lex.nil | apply Then.n | apply Then.r | apply Then.x | apply InBlock.n | apply InBlock.r | apply InBlock.hit | (apply InBlock.miss; exact rfl) | apply W.seq | apply W.region | apply W.block | apply W.skip | apply W.ret | apply W.exit | (apply S_isnil TYok; exact rfl; exact rfl; exact rfl; exact Ev.auto; intro bn hnil) | (apply RG.gT; exact rfl; exact rfl; (first | assumption | decide)) | (apply RG.gF; exact rfl; exact rfl; (first | assumption | decide | (rw [ne_eq, Bool.not_eq_true]; assumption) | (rw [ne_eq, Bool.not_eq_false]; assumption)); exact rfl) | (refine W.drawA (id := 13) (L := [false, false, false, false, false, false, false, false]) mixed rfl ?_) | exact RAll.nil | (refine RAll.cons rfl ?_ ?_) | (refine RA.step (L := [false, false, false, false, false, false, false, false]) (i := 0) (is := [1, 2, 3]) (by kernel_rfl) ?_) | (refine RA.step (L := [false, false, false, true, false, false, false, false]) (i := 0) (is := [1, 2]) (by kernel_rfl) ?_) | (refine RA.step (L := [false, false, true, true, false, false, false, false]) (i := 0) (is := [1]) (by kernel_rfl) ?_) | (refine RA.step (L := [false, true, true, true, false, false, false, false]) (i := 0) (is := []) (by kernel_rfl) ?_) | (refine RA.step (L := [true, true, true, true, false, false, false, false]) (i := 4) (is := []) (by kernel_rfl) ?_) | (refine RA.step (L := [true, true, true, true, true, false, false, false]) (i := 5) (is := []) (by kernel_rfl) ?_) | (refine RA.step (L := [true, true, true, true, true, true, false, false]) (i := 6) (is := []) (by kernel_rfl) ?_) | (refine RA.step (L := [true, true, true, true, true, true, true, false]) (i := 7) (is := []) (by kernel_rfl) ?_) | (refine RA.done (L := [true, true, true, true, true, true, true, true]) (by kernel_rfl) ?_) | (refine RA.step (L := [true, false, true, true, false, false, false, false]) (i := 1) (is := [4]) (by kernel_rfl) ?_) | (refine RA.step (L := [true, false, true, true, true, false, false, false]) (i := 1) (is := []) (by kernel_rfl) ?_) | (refine RA.step (L := [false, true, false, true, false, false, false, false]) (i := 0) (is := [2]) (by kernel_rfl) ?_) | (refine RA.step (L := [true, true, false, true, false, false, false, false]) (i := 2) (is := [4]) (by kernel_rfl) ?_) | (refine RA.step (L := [true, true, false, true, true, false, false, false]) (i := 2) (is := [5]) (by kernel_rfl) ?_) | (refine RA.step (L := [true, true, false, true, true, true, false, false]) (i := 2) (is := []) (by kernel_rfl) ?_) | (refine RA.step (L := [true, false, false, true, false, false, false, false]) (i := 1) (is := [2, 4]) (by kernel_rfl) ?_) | (refine RA.step (L := [true, false, false, true, true, false, false, false]) (i := 1) (is := [2]) (by kernel_rfl) ?_) | (refine RA.step (L := [false, false, true, false, false, false, false, false]) (i := 0) (is := [1, 3]) (by kernel_rfl) ?_) | (refine RA.step (L := [false, true, true, false, false, false, false, false]) (i := 0) (is := [3]) (by kernel_rfl) ?_) | (refine RA.step (L := [true, true, true, false, false, false, false, false]) (i := 3) (is := [4]) (by kernel_rfl) ?_) | (refine RA.step (L := [true, true, true, false, true, false, false, false]) (i := 3) (is := [5]) (by kernel_rfl) ?_) | (refine RA.step (L := [true, true, true, false, true, true, false, false]) (i := 3) (is := [6]) (by kernel_rfl) ?_) | (refine RA.step (L := [true, true, true, false, true, true, true, false]) (i := 3) (is := []) (by kernel_rfl) ?_) | (refine RA.step (L := [true, false, true, false, false, false, false, false]) (i := 1) (is := [3, 4]) (by kernel_rfl) ?_) | (refine RA.step (L := [true, false, true, false, true, false, false, false]) (i := 1) (is := [3]) (by kernel_rfl) ?_) | (refine RA.step (L := [false, true, false, false, false, false, false, false]) (i := 0) (is := [2, 3]) (by kernel_rfl) ?_) | (refine RA.step (L := [true, true, false, false, false, false, false, false]) (i := 2) (is := [3, 4]) (by kernel_rfl) ?_) | (refine RA.step (L := [true, true, false, false, true, false, false, false]) (i := 2) (is := [3, 5]) (by kernel_rfl) ?_) | (refine RA.step (L := [true, true, false, false, true, true, false, false]) (i := 2) (is := [3]) (by kernel_rfl) ?_) | (refine RA.step (L := [true, false, false, false, false, false, false, false]) (i := 1) (is := [2, 3, 4]) (by kernel_rfl) ?_) | (refine RA.step (L := [true, false, false, false, true, false, false, false]) (i := 1) (is := [2, 3]) (by kernel_rfl) ?_) | (refine W.condA (ht := fun hb => ?_) (hf := fun hb => ?_) <;> (try simp at hb) <;> (try (exfalso; first | exact hbad hb | omega))))
  all_goals exact Fin.ret ResL.auto
theorem qcmp_arg : ACalls Tryz.prog 28 [fB s l s' l', fB t m t' m'] (.pv (cI 0)) := by
  have h1 := qright_ok s l s' l' hl hl'
  have h2 := qright_ok t m t' m' hm hm'
  have hbad : (rightFB s l s' l' = true ∧ rightFB t m t' m' = true) → False := h
  generalize rightFB s l s' l' = b1 at *
  generalize rightFB t m t' m' = b2 at *
  refine ACalls.of_W (qs := [cI 0]) [4] 22 Tryz.func28 (by kernel_rfl) rfl rfl rfl fun G => ?_
  refine W.initA (hw := ?_)
  repeat' (first | ((first | apply U_ | (apply Ug_; exact rfl; exact rfl) | (apply Ugq_; exact rfl; exact rfl)); (first | exact QX.Move TYok | exact QX.Asg TYok | exact QX.Fld TYok | exact QX.Ld TYok | exact QX.Pick TYok | exact QX.Un TYok | (apply Q_calld (h1); exact EvD.auto) | (apply Q_calld (h2); exact EvD.auto)); exact rfl) | refine SX.Box TYok (h := ?_) | apply RG.nil | apply Lex.nil | apply Then.n | apply Then.r | apply Then.x | apply InBlock.n | apply InBlock.r | apply InBlock.hit | (apply InBlock.miss; exact rfl) | apply W.seq | apply W.region | apply W.block | apply W.skip | apply W.ret | apply W.exit | (apply RG.gT; exact rfl; exact rfl; (first | assumption | decide)) | (apply RG.gF; exact rfl; exact rfl; (first | assumption | decide | (rw [ne_eq, Bool.not_eq_true]; assumption) | (rw [ne_eq, Bool.not_eq_false]; assumption)); exact rfl) | (refine W.condA (ht := fun hb => ?_) (hf := fun hb => ?_) <;> (try simp at hb) <;> (try (exfalso; first | exact hbad hb | omega))))
  all_goals exact Fin.ret ResL.auto
end
end Go.Proofs.YtipghibmgfhmpaaGreatDoor
end
