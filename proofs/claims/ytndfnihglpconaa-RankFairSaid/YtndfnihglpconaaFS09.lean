/-
  Part 9 of what the proof rests on.
-/
import Derived.Test.YtndfnihglpconaaFS08
import Derived.Test.YtndfnihglpconaaFS04
import Derived.Test.YtndfnihglpconaaFS07
import Derived.Test.YtndfnihglpconaaFS03
section
set_option linter.unusedVariables false
set_option linter.unusedSimpArgs false
set_option maxHeartbeats 8000000
namespace Go.Proofs.Ytndfnihglpconaa
open Lf Go
attribute [local irreducible] PureOp EffOp Ev RG W Then InBlock Lf.Fin nth App InitE Pick EvL EvD EvP EvR ResL Lf.Lex SubR SubBR FinO FinM ResM ResD FinS val pw digs trimL
section
theorem sameBig_ok (s s' : Int) (a b : List Int) (hl : a.length ≤ 1000000) (hl' : b.length ≤ 1000000) : ACalls Try.prog 40 [aB s a, aB s' b] (.pv (cB (decide (s = s') && decide (a = b)))) := by
  by_cases h0 : s = s' ∧ a.length = b.length
  case neg =>
    have e : (decide (s = s') && decide (a = b)) = false := by
      rw [Bool.and_eq_false_iff, decide_eq_false_iff_not, decide_eq_false_iff_not]
      by_cases hs : s = s'
      · exact .inr fun e => h0 ⟨hs, by rw [e]⟩
      · exact .inl hs
    rw [e]
    refine ACalls.of_W (qs := [cB false]) [4] 38 Try.func40 (by kernel_rfl) rfl rfl rfl fun G => ?_
    refine W.initA (hw := ?_)
    repeat' (first | (exfalso; omega) | ((first | apply U_ | (apply Ug_; exact rfl; exact rfl) | (apply Ugq_; exact rfl; exact rfl) | apply Lex.u | (apply Lex.g; exact rfl; exact rfl) | (apply Lex.gq; exact rfl; exact rfl)); (first | exact QX.B TYok | exact QX.Len TYok | exact QX.Idx TYok); exact rfl) | refine SX.Box TYok (h := ?_) | refine SC ?_ | refine SG ?_ | (apply W.draw2 (id := 6) [0, 1, 0, 7, 15, 0, 32, 0, 224, 480, 1023] [[2], [27], [5], [28, 29], [30], [3], [32], [5], [33, 34], [35], [31, 36]] 11 [(27, 4), (28, 134217728), (29, 32), (30, 805306368), (31, 1073741824), (32, 8), (33, 4294967296), (34, 32), (35, 25769803776), (36, 34359738368), (37, 70866960384)] mixed (by kernel_rfl) rfl rfl) | (refine W.condA (ht := fun hb => ?_) (hf := fun hb => ?_) <;> (try simp at hb) <;> (try (exfalso; omega))))
    exact Fin.ret ResL.auto
  obtain ⟨rfl, hab⟩ := h0
  rw [decide_eq_true rfl, Bool.true_and]
  refine ACalls.of_W (qs := [cB (decide (a = b))]) [4] 38 Try.func40 (by kernel_rfl) rfl rfl rfl fun G => ?_
  refine W.initA (hw := ?_)
  repeat' (first | ((first | apply U_ | (apply Ug_; exact rfl; exact rfl) | (apply Ugq_; exact rfl; exact rfl) | apply Lex.u | (apply Lex.g; exact rfl; exact rfl) | (apply Lex.gq; exact rfl; exact rfl)); (first | exact QX.B TYok | exact QX.Len TYok | exact QX.Idx TYok); exact rfl) | refine SX.Box TYok (h := ?_) | refine SC ?_ | refine SG ?_ | (apply W.draw2 (id := 6) [0, 1, 0, 7, 15, 0, 32, 0, 224, 480, 1023] [[2], [27], [5], [28, 29], [30], [3], [32], [5], [33, 34], [35], [31, 36]] 11 [(27, 4), (28, 134217728), (29, 32), (30, 805306368), (31, 1073741824), (32, 8), (33, 4294967296), (34, 32), (35, 25769803776), (36, 34359738368), (37, 70866960384)] mixed (by kernel_rfl) rfl rfl) | (refine W.condA (ht := fun hb => ?_) (hf := fun hb => ?_) <;> (try simp at hb) <;> (try (exfalso; omega))))
  apply W.loopP (σ := Nat) 38 [2, 3] (fun k => k ≤ a.length ∧ a.take k = b.take k) (fun k => [(5, vI k)]) (fun _ => [(2, ⟨24, 2, [[.int .i64 s, .sl (a.map Lf.encI)]]⟩), (3, ⟨24, 2, [[.int .i64 s, .sl (b.map Lf.encI)]]⟩)]) (fun k => a.length - k) (0)
  case hp => repeat (first | exact Pick.nil | apply Pick.cons rfl)
  case h0 =>
    refine ⟨by simp, ?_⟩
    exact Le.auto
  case round =>
    rintro k ⟨g1, g2⟩
    apply W.norm (by repeat (first | exact App.nil | apply App.cons))
    repeat' (first | ((first | apply U_ | (apply Ug_; exact rfl; exact rfl) | (apply Ugq_; exact rfl; exact rfl) | apply Lex.u | (apply Lex.g; exact rfl; exact rfl) | (apply Lex.gq; exact rfl; exact rfl)); (first | exact QX.B TYok | exact QX.Len TYok | exact QX.Idx TYok); exact rfl) | refine SX.Box TYok (h := ?_) | refine SC ?_ | refine SG ?_ | (apply W.draw2 (id := 6) [0, 1, 0, 7, 15, 0, 32, 0, 224, 480, 1023] [[2], [27], [5], [28, 29], [30], [3], [32], [5], [33, 34], [35], [31, 36]] 11 [(27, 4), (28, 134217728), (29, 32), (30, 805306368), (31, 1073741824), (32, 8), (33, 4294967296), (34, 32), (35, 25769803776), (36, 34359738368), (37, 70866960384)] mixed (by kernel_rfl) rfl rfl) | (refine W.condA (ht := fun hb => ?_) (hf := fun hb => ?_) <;> (try simp at hb) <;> (try (exfalso; omega))))
    · rw [decide_eq_false (fun e => by subst e; omega)]
      exact Fin.ret ResL.auto
    · refine ⟨k + 1, ⟨by omega, ?_⟩, ?_, by omega⟩
      · rw [take_nth (by omega), take_nth (by omega), g2, hb]
      · exact Le.auto
    · obtain rfl : k = a.length := by omega
      rw [List.take_length, hab, List.take_length] at g2
      rw [decide_eq_true g2]
      exact Fin.ret ResL.auto
theorem sameBigZ_ok (x y : Int) (hx : okZ x) (hy : okZ y) : ACalls Try.prog 40 [zB x, zB y] (.pv (cB (decide (x = y)))) := by
  have h := sameBig_ok (sgn x) (sgn y) (digs (mag x)) (digs (mag y)) (by have := num_len hx; omega) (by have := num_len hy; omega)
  rw [show (decide (sgn x = sgn y) && decide (digs (mag x) = digs (mag y))) = decide (x = y) by
    rw [Bool.eq_iff_iff, Bool.and_eq_true, decide_eq_true_iff, decide_eq_true_iff, decide_eq_true_iff]
    exact ⟨fun h => num_inj h.1 h.2, fun h => by rw [h]; exact ⟨rfl, rfl⟩⟩] at h
  exact h
theorem same_frac (a b : Rat) : (decide (a.num = b.num) && decide ((a.den : Int) = b.den)) = decide (a = b) := by
  rw [← Bool.decide_and]
  exact decide_eq_decide.2 ⟨fun h => Rat.ext h.1 (by omega), fun h => by subst h; exact ⟨rfl, rfl⟩⟩
attribute [local irreducible] sgn mag gcdZ quoZ remZ fullZ fullE
theorem same_ok (a b : Rat) (ha : okF a) (hB : okF b) : ACalls Try.prog 17 [zF a, zF b] (.pv (cB (decide (a = b)))) := by
  have s1 := sameBigZ_ok a.num b.num ha.1 hB.1
  have s2 := sameBigZ_ok a.den b.den ha.2 hB.2
  rw [← same_frac]
  refine ACalls.of_W (qs := [cB (decide (a.num = b.num) && decide ((a.den : Int) = b.den))]) [4] 17 Try.func17 (by kernel_rfl) rfl rfl rfl fun G => ?_
  refine W.initA (hw := ?_)
  repeat' (first | ((first | apply U_ | (apply Ug_; exact rfl; exact rfl) | (apply Ugq_; exact rfl; exact rfl)); (first | exact QX.B TYok | exact QCd (s1) | exact QCd (s2)); exact rfl) | refine SX.Box TYok (h := ?_) | refine SC ?_ | refine SG ?_ | (refine W.condA (ht := fun hb => ?_) (hf := fun hb => ?_) <;> (try simp at hb) <;> (try (exfalso; omega))))
  all_goals exact Fin.ret ResL.auto
theorem Of_ok (p q : Int) (hp : i64B p) (hq : i64B q) (h0 : q ≠ 0) : ACalls Try.prog 50 [cI p, cI q] (.tup [zF (Rat.divInt p q), cI 0]) := by
  have z1 := ofZ_ok p hp
  have z2 := ofZ_ok q hq
  have n1 := new_ok p q (i64_ok hp) (i64_ok hq) h0
  generalize Rat.divInt p q = r at *
  refine ACalls.of_M TYok (qs := [zF r, cI 0]) [.cell 4 26, .tmp 5] 13 Try.func50 (by kernel_rfl) rfl rfl rfl fun G => ?_
  refine W.initA (hw := ?_)
  repeat' (first | ((first | apply U_); (first | exact QX.B TYok | exact QX.Ext TYok | exact QCd (z1) | exact QCd (z2) | exact QCd (n1)); exact rfl) | refine SX.Alloc TYok (h := ?_) | refine SX.Store TYok (h := ?_) | refine SC ?_ | (refine W.condA (ht := fun hb => ?_) (hf := fun hb => ?_) <;> (try simp at hb) <;> (try (exfalso; omega))))
  all_goals exact FinM.ret ResM.auto
end
end Go.Proofs.Ytndfnihglpconaa
end
section
set_option linter.unusedVariables false
set_option linter.unusedSimpArgs false
set_option maxHeartbeats 8000000
namespace Go.Proofs.Ytndfnihglpconaa
open Lf Go
attribute [local irreducible] PureOp EffOp Ev RG W Then InBlock Lf.Fin nth App InitE Pick EvL EvD EvP EvR ResL Lf.Lex SubR SubBR FinO FinM ResM ResD FinS val pw digs trimL
section
attribute [local irreducible] sgn mag gcdZ quoZ remZ fullZ fullE
theorem right_sgn {s : Int} {l : List Int} (h : rightB s l = true) : -1 ≤ s ∧ s ≤ 1 := by
  obtain ⟨x, ox, rfl, rfl⟩ := right_num h
  have := sgn_cases x
  omega
theorem qright_ok (s : Int) (l : List Int) (s' : Int) (l' : List Int) (hl : l.length ≤ 9223372036854775807) (hl' : l'.length ≤ 9223372036854775807) : ACalls Try.prog 15 [fB s l s' l'] (.pv (cB (rightFB s l s' l'))) := by
  have r1 := rright_ok s l hl
  have r2 := rright_ok s' l' hl'
  have hs2 : rightB s' l' = true → s' ≤ 1 := fun h => (right_sgn h).2
  by_cases hw : (rightB s l = true ∧ rightB s' l' = true) ∧ s' = 1
  case neg =>
    have e : rightFB s l s' l' = false := by
      unfold rightFB
      cases h1 : rightB s l <;> cases h2 : rightB s' l' <;> simp_all
    rw [e]
    generalize rightB s l = b1 at r1 hw
    generalize rightB s' l' = b2 at r2 hw hs2
    have hbad : ((b1 = true ∧ b2 = true) ∧ 1 ≤ s') → False := fun h => hw ⟨h.1, by have := hs2 h.1.2; omega⟩
    refine ACalls.of_W (qs := [cB false]) [2] 33 Try.func15 (by kernel_rfl) rfl rfl rfl fun G => ?_
    refine W.initA (hw := ?_)
    repeat' (first | ((first | apply U_ | (apply Ug_; exact rfl; exact rfl) | (apply Ugq_; exact rfl; exact rfl) | apply Lex.u | (apply Lex.g; exact rfl; exact rfl) | (apply Lex.gq; exact rfl; exact rfl)); (first | exact QX.B TYok | exact QX.Ext TYok | exact QCd (r1) | exact QCd (r2)); exact rfl) | refine SX.Alloc TYok (h := ?_) | refine SX.Store TYok (h := ?_) | refine SX.Box TYok (h := ?_) | refine SC ?_ | (apply S_isnil TYok; exact rfl; exact rfl; exact rfl; exact Ev.auto; intro bn hnil) | refine SG ?_ | (apply W.draw2 (id := 4) [0, 0, 3, 7, 15] [[3], [], [29, 30], [31], [32]] 5 [(29, 8), (30, 0), (31, 1610612736), (32, 2147483648), (2, 4294967296)] mixed (by kernel_rfl) rfl rfl) | (refine W.condA (ht := fun hb => ?_) (hf := fun hb => ?_) <;> (try simp at hb) <;> (try (exfalso; first | exact hbad hb | omega))))
    all_goals exact Fin.ret ResL.auto
  obtain ⟨⟨q1, q2⟩, h1⟩ := hw
  have e : rightFB s l s' l' = decide (gcdZ (s * val l) (val l') = 1) := by unfold rightFB; rw [q1, q2, decide_eq_true h1]; simp
  rw [e]
  rw [q1] at r1
  rw [q2] at r2
  obtain ⟨x, ox, rfl, rfl⟩ := right_num q1
  obtain ⟨y, oy, rfl, rfl⟩ := right_num q2
  have cy := sgn_cases y
  have ey : val (digs (mag y)) = y := by rw [val_mag]; omega
  have ex : sgn x * val (digs (mag x)) = x := by rw [val_mag, sgn_mag]
  rw [ex, ey]
  have g1 := rgcdZ_ok x y ox oy
  have og := gcd_lt ox oy
  have o1 := rof_ok 1 (by unfold i64B; omega)
  have c1 := rcmpZ_ok (gcdZ x y) 1 og (i64_ok (by unfold i64B; omega))
  generalize gcdZ x y = g at *
  have hc := cmp_cases g 1
  have e2 : decide (g = 1) = decide (cmpI g 1 = 0) := decide_eq_decide.2 (by omega)
  rw [e2]
  generalize cmpI g 1 = c at *
  refine ACalls.of_W (qs := [cB (decide (c = 0))]) [2] 33 Try.func15 (by kernel_rfl) rfl rfl rfl fun G => ?_
  refine W.initA (hw := ?_)
  repeat' (first | ((first | apply U_ | (apply Ug_; exact rfl; exact rfl) | (apply Ugq_; exact rfl; exact rfl) | apply Lex.u | (apply Lex.g; exact rfl; exact rfl) | (apply Lex.gq; exact rfl; exact rfl)); (first | (apply Q_litD TYok; (repeat (first | exact EvR.nil | apply EvR.cons Ev.auto)); exact rfl; exact rfl; exact rfl; exact rfl; exact rfl; exact rfl) | exact QX.B TYok | exact QX.Ext TYok | exact QCd (r1) | exact QCd (r2) | exact QCd (g1) | exact QCd (o1) | exact QCd (c1)); exact rfl) | refine SX.Alloc TYok (h := ?_) | refine SX.Store TYok (h := ?_) | refine SX.Box TYok (h := ?_) | refine SC ?_ | (apply S_isnil TYok; exact rfl; exact rfl; exact rfl; exact Ev.auto; intro bn hnil) | refine SG ?_ | (apply W.draw2 (id := 4) [0, 0, 3, 7, 15] [[3], [], [29, 30], [31], [32]] 5 [(29, 8), (30, 0), (31, 1610612736), (32, 2147483648), (2, 4294967296)] mixed (by kernel_rfl) rfl rfl) | (refine W.condA (ht := fun hb => ?_) (hf := fun hb => ?_) <;> (try simp at hb) <;> (try (exfalso; omega))))
  all_goals exact Fin.ret ResL.auto
theorem qright_yes (r : Rat) (h : okF r) : ACalls Try.prog 15 [zF r] (.pv (cB true)) := by
  have hp := den_pos r
  have := qright_ok (sgn r.num) (digs (mag r.num)) (sgn r.den) (digs (mag r.den)) (by have := num_len h.1; omega) (by have := num_len h.2; omega)
  have e : rightFB (sgn r.num) (digs (mag r.num)) (sgn r.den) (digs (mag r.den)) = true := by
    unfold rightFB
    have c := sgn_cases r.den
    rw [num_right h.1, num_right h.2, decide_eq_true (show sgn r.den = 1 by omega), val_mag, val_mag, sgn_mag, show mag r.den = r.den by omega, num_den_gcd]; rfl
  rwa [e] at this
theorem qnew_pos (x y : Int) (hx : okZ x) (hy : okZ y) (h0 : 0 < y) : ACalls Try.prog 65 [zB x, zB y] (.tup [zF2 (quoZ x (gcdZ x y)) (quoZ y (gcdZ x y)), cI 0]) := by
  have r1 := rright_yes hx
  have r2 := rright_yes hy
  have cy := sgn_cases y
  have hg := gcd_pos (x := x) (show y ≠ 0 by omega)
  have og := gcd_lt hx hy
  have g1 := rgcdZ_ok x y hx hy
  have d1 := rdivZ_ok x (gcdZ x y) hx og (by omega)
  have d2 := rdivZ_ok y (gcdZ x y) hy og (by omega)
  generalize quoZ x (gcdZ x y) = a at *
  generalize quoZ y (gcdZ x y) = b at *
  generalize gcdZ x y = g at *
  refine ACalls.of_M TYok (qs := [zF2 a b, cI 0]) [.cell 4 26, .tmp 5] 57 Try.func65 (by kernel_rfl) rfl rfl rfl fun G => ?_
  refine W.initA (hw := ?_)
  repeat' (first | ((first | apply U_ | (apply Ug_; exact rfl; exact rfl) | (apply Ugq_; exact rfl; exact rfl)); (first | exact QX.B TYok | exact QX.Ext TYok | exact QX.Build TYok | exact QCd (r1) | exact QCd (r2) | exact QCd (g1) | exact QCd (d1) | exact QCd (d2)); exact rfl) | refine SX.Alloc TYok (h := ?_) | refine SX.Store TYok (h := ?_) | refine SX.Box TYok (h := ?_) | refine SC ?_ | (apply S_isnil TYok; exact rfl; exact rfl; exact rfl; exact Ev.auto; intro bn hnil) | refine SG ?_ | (refine W.condA (ht := fun hb => ?_) (hf := fun hb => ?_) <;> (try simp at hb) <;> (try (exfalso; omega))))
  all_goals exact FinM.ret ResM.auto
theorem qnew_neg (x y : Int) (hx : okZ x) (hy : okZ y) (h0 : y < 0) : ACalls Try.prog 65 [zB x, zB y] (.tup [zF2 (quoZ (-x) (gcdZ (-x) (-y))) (quoZ (-y) (gcdZ (-x) (-y))), cI 0]) := by
  have r1 := rright_yes hx
  have r2 := rright_yes hy
  have cy := sgn_cases y
  have n1 := rneg_ok x hx
  have n2 := rneg_ok y hy
  have ox := okZ_neg hx
  have oy := okZ_neg hy
  have hg := gcd_pos (x := -x) (show -y ≠ 0 by omega)
  have og := gcd_lt ox oy
  have g1 := rgcdZ_ok (-x) (-y) ox oy
  have d1 := rdivZ_ok (-x) (gcdZ (-x) (-y)) ox og (by omega)
  have d2 := rdivZ_ok (-y) (gcdZ (-x) (-y)) oy og (by omega)
  generalize quoZ (-x) (gcdZ (-x) (-y)) = a at *
  generalize quoZ (-y) (gcdZ (-x) (-y)) = b at *
  generalize gcdZ (-x) (-y) = g at *
  refine ACalls.of_M TYok (qs := [zF2 a b, cI 0]) [.cell 4 26, .tmp 5] 57 Try.func65 (by kernel_rfl) rfl rfl rfl fun G => ?_
  refine W.initA (hw := ?_)
  repeat' (first | ((first | apply U_ | (apply Ug_; exact rfl; exact rfl) | (apply Ugq_; exact rfl; exact rfl)); (first | exact QX.B TYok | exact QX.Ext TYok | exact QX.Build TYok | exact QCd (r1) | exact QCd (r2) | exact QCd (n1) | exact QCd (n2) | exact QCd (g1) | exact QCd (d1) | exact QCd (d2)); exact rfl) | refine SX.Alloc TYok (h := ?_) | refine SX.Store TYok (h := ?_) | refine SX.Box TYok (h := ?_) | refine SC ?_ | (apply S_isnil TYok; exact rfl; exact rfl; exact rfl; exact Ev.auto; intro bn hnil) | refine SG ?_ | (refine W.condA (ht := fun hb => ?_) (hf := fun hb => ?_) <;> (try simp at hb) <;> (try (exfalso; omega))))
  all_goals exact FinM.ret ResM.auto
theorem qnew_ok (x y : Int) (hx : okZ x) (hy : okZ y) (h0 : y ≠ 0) : ACalls Try.prog 65 [zB x, zB y] (.tup [zF (Rat.divInt x y), cI 0]) := by
  by_cases h : 0 < y
  · obtain ⟨e1, e2⟩ := divInt_pos (x := x) h
    have := qnew_pos x y hx hy h
    rwa [← e1, ← e2] at this
  · obtain ⟨e1, e2⟩ := divInt_pos (x := -x) (y := -y) (by omega)
    have := qnew_neg x y hx hy (by omega)
    rw [← e1, ← e2, divInt_flip] at this
    exact this
theorem qof_ok (p q : Int) (hp : i64B p) (hq : i64B q) (h0 : q ≠ 0) : ACalls Try.prog 57 [cI p, cI q] (.tup [zF (Rat.divInt p q), cI 0]) := by
  have z1 := rof_ok p hp
  have z2 := rof_ok q hq
  have n1 := qnew_ok p q (i64_ok hp) (i64_ok hq) h0
  generalize Rat.divInt p q = r at *
  refine ACalls.of_M TYok (qs := [zF r, cI 0]) [.cell 4 26, .tmp 5] 13 Try.func57 (by kernel_rfl) rfl rfl rfl fun G => ?_
  refine W.initA (hw := ?_)
  repeat' (first | ((first | apply U_); (first | exact QX.B TYok | exact QX.Ext TYok | exact QCd (z1) | exact QCd (z2) | exact QCd (n1)); exact rfl) | refine SX.Alloc TYok (h := ?_) | refine SX.Store TYok (h := ?_) | refine SC ?_ | (refine W.condA (ht := fun hb => ?_) (hf := fun hb => ?_) <;> (try simp at hb) <;> (try (exfalso; omega))))
  all_goals exact FinM.ret ResM.auto
end
section
attribute [local irreducible] sgn mag gcdZ quoZ remZ fullZ fullE
theorem qmade_yes (p q : Int) (hp : okZ p) (hq : okZ q) (h0 : q ≠ 0) : ACalls Try.prog 43 [zB p, zB q, cB false] (.tup [zF (Rat.divInt p q), cI 0]) := by
  have n1 := qnew_ok p q hp hq h0
  generalize Rat.divInt p q = r at *
  refine ACalls.of_M TYok (qs := [zF r, cI 0]) [.cell 6 26, .tmp 7] 15 Try.func43 (by kernel_rfl) rfl rfl rfl fun G => ?_
  refine W.initA (hw := ?_)
  repeat' (first | ((first | apply U_); (first | exact QX.B TYok | exact QX.Ext TYok | exact QX.Build TYok | exact QCd (n1)); exact rfl) | refine SX.Alloc TYok (h := ?_) | refine SX.Store TYok (h := ?_) | refine SX.Box TYok (h := ?_) | refine SC ?_ | (refine W.condA (ht := fun hb => ?_) (hf := fun hb => ?_) <;> (try simp at hb) <;> (try (exfalso; omega))))
  all_goals exact FinM.ret ResM.auto
theorem qmade_no (p q : Int) : ACalls Try.prog 43 [zB p, zB q, cB true] (.tup [zF0, cI 6]) := by
  refine ACalls.of_M TYok (qs := [zF0, cI 6]) [.cell 6 26, .tmp 7] 15 Try.func43 (by kernel_rfl) rfl rfl rfl fun G => ?_
  refine W.initA (hw := ?_)
  repeat' (first | ((first | apply U_); (first | exact QX.B TYok | exact QX.Ext TYok | exact QX.Build TYok); exact rfl) | refine SX.Alloc TYok (h := ?_) | refine SX.Store TYok (h := ?_) | refine SX.Box TYok (h := ?_) | refine SC ?_ | (refine W.condA (ht := fun hb => ?_) (hf := fun hb => ?_) <;> (try simp at hb) <;> (try (exfalso; omega))))
  all_goals exact FinM.ret (ResM.cell rfl rfl rfl rfl zeroSubF (ResM.tmp rfl rfl PSub.rfl' ResM.nil))
theorem qmul_yes (a b : Rat) (ha : okF a) (hb : okF b) (h : mulOk a b) : ACalls Try.prog 22 [zF a, zF b] (.tup [zF (a * b), cI 0]) := by
  obtain ⟨h1, h2⟩ := h
  have r1 := qright_yes a ha
  have r2 := qright_yes b hb
  have m1 := rmulZ_ok a.num b.num ha.1 hb.1
  rw [(full_yes h1).1, (full_yes h1).2] at m1
  have m2 := rmulZ_ok a.den b.den ha.2 hb.2
  rw [(full_yes h2).1, (full_yes h2).2] at m2
  have q1 := qmade_yes _ _ h1 h2 (mul_ne (den_ne a) (den_ne b))
  rw [rat_mul]
  generalize Rat.divInt (a.num * b.num) (a.den * b.den) = r at *
  refine ACalls.of_M TYok (qs := [zF r, cI 0]) [.cell 4 26, .tmp 5] 46 Try.func22 (by kernel_rfl) rfl rfl rfl fun G => ?_
  refine W.initA (hw := ?_)
  repeat' (first | ((first | apply U_ | (apply Ug_; exact rfl; exact rfl) | (apply Ugq_; exact rfl; exact rfl)); (first | exact QX.B TYok | exact QX.Ext TYok | exact QX.Build TYok | exact QCd (r1) | exact QCd (r2) | exact QCd (m1) | exact QCd (m2) | exact QCd (q1)); exact rfl) | refine SX.Alloc TYok (h := ?_) | refine SX.Store TYok (h := ?_) | refine SX.Box TYok (h := ?_) | refine SC ?_ | refine SG ?_ | (refine W.condA (ht := fun hb => ?_) (hf := fun hb => ?_) <;> (try simp at hb) <;> (try (exfalso; omega))))
  all_goals exact FinM.ret ResM.auto
theorem fullE_no {z : Int} (h : ¬ okZ z) : ¬ fullE z = 0 := by rw [(full_no h).2]; decide
theorem full_ok (z : Int) : okZ (fullZ z) := by
  by_cases h : okZ z
  · rw [(full_yes h).1]; exact h
  · rw [(full_no h).1]; exact okZ.zero
end
section
attribute [local irreducible] sgn mag gcdZ quoZ remZ fullZ fullE
theorem qadd_yes (a b : Rat) (ha : okF a) (hb : okF b) (h : addOk a b) : ACalls Try.prog 23 [zF a, zF b] (.tup [zF (a + b), cI 0]) := by
  obtain ⟨⟨h1, h2, h3⟩, h4⟩ := h
  have r1 := qright_yes a ha
  have r2 := qright_yes b hb
  have m1 := rmulZ_ok a.num b.den ha.1 hb.2
  rw [(full_yes h1).1, (full_yes h1).2] at m1
  have m2 := rmulZ_ok b.num a.den hb.1 ha.2
  rw [(full_yes h2).1, (full_yes h2).2] at m2
  have m3 := rmulZ_ok a.den b.den ha.2 hb.2
  rw [(full_yes h4).1, (full_yes h4).2] at m3
  have m4 := raddZ_ok (a.num * b.den) (b.num * a.den) h1 h2
  rw [(full_yes h3).1, (full_yes h3).2] at m4
  have q1 := qmade_yes _ _ h3 h4 (mul_ne (den_ne a) (den_ne b))
  rw [rat_add]
  generalize Rat.divInt (a.num * b.den + b.num * a.den) (a.den * b.den) = r at *
  refine ACalls.of_M TYok (qs := [zF r, cI 0]) [.cell 4 26, .tmp 5] 72 Try.func23 (by kernel_rfl) rfl rfl rfl fun G => ?_
  refine W.initA (hw := ?_)
  repeat' (first | ((first | apply U_ | (apply Ug_; exact rfl; exact rfl) | (apply Ugq_; exact rfl; exact rfl)); (first | exact QX.B TYok | exact QX.Ext TYok | exact QX.Build TYok | exact QCd (r1) | exact QCd (r2) | exact QCd (m1) | exact QCd (m2) | exact QCd (m3) | exact QCd (m4) | exact QCd (q1)); exact rfl) | refine SX.Alloc TYok (h := ?_) | refine SX.Store TYok (h := ?_) | refine SX.Box TYok (h := ?_) | refine SC ?_ | refine SG ?_ | (refine W.condA (ht := fun hb => ?_) (hf := fun hb => ?_) <;> (try simp at hb) <;> (try (exfalso; omega))))
  all_goals exact FinM.ret ResM.auto
theorem sub_bad {x y q : Int} {op : Int → Int → Int} (h : ¬ ((okZ x ∧ okZ y ∧ okZ (op x y)) ∧ okZ q)) :
    (((!decide (fullE x = 0) || !decide (fullE y = 0)) || !decide (fullE q = 0)) || !decide (fullE (op (fullZ x) (fullZ y)) = 0)) = true := by
  simp only [Bool.or_eq_true, Bool.not_eq_true', decide_eq_false_iff_not]
  by_cases k1 : okZ x
  · by_cases k2 : okZ y
    · by_cases k3 : okZ q
      · refine .inr ?_
        rw [(full_yes k1).1, (full_yes k2).1]
        exact fullE_no fun k4 => h ⟨⟨k1, k2, k4⟩, k3⟩
      · exact .inl (.inr (fullE_no k3))
    · exact .inl (.inl (.inr (fullE_no k2)))
  · exact .inl (.inl (.inl (fullE_no k1)))
theorem qadd_no (a b : Rat) (ha : okF a) (hb : okF b) (h : ¬ addOk a b) : ACalls Try.prog 23 [zF a, zF b] (.tup [zF0, cI 6]) := by
  have r1 := qright_yes a ha
  have r2 := qright_yes b hb
  have m1 := rmulZ_ok a.num b.den ha.1 hb.2
  have m2 := rmulZ_ok b.num a.den hb.1 ha.2
  have m3 := rmulZ_ok a.den b.den ha.2 hb.2
  have m4 := raddZ_ok (fullZ (a.num * b.den)) (fullZ (b.num * a.den)) (full_ok _) (full_ok _)
  have q1 := qmade_no (fullZ (fullZ (a.num * b.den) + fullZ (b.num * a.den))) (fullZ (a.den * b.den))
  rw [← sub_bad (x := a.num * b.den) (y := b.num * a.den) (q := a.den * b.den) (op := fun x y => x + y) h] at q1
  generalize fullZ (fullZ (a.num * b.den) + fullZ (b.num * a.den)) = w4 at *
  generalize fullE (fullZ (a.num * b.den) + fullZ (b.num * a.den)) = e4 at *
  generalize fullZ (a.num * b.den) = w1 at *
  generalize fullE (a.num * b.den) = e1 at *
  generalize fullZ (b.num * a.den) = w2 at *
  generalize fullE (b.num * a.den) = e2 at *
  generalize fullZ (a.den * b.den) = w3 at *
  generalize fullE (a.den * b.den) = e3 at *
  refine ACalls.of_M TYok (qs := [zF0, cI 6]) [.cell 4 26, .tmp 5] 72 Try.func23 (by kernel_rfl) rfl rfl rfl fun G => ?_
  refine W.initA (hw := ?_)
  repeat' (first | ((first | apply U_ | (apply Ug_; exact rfl; exact rfl) | (apply Ugq_; exact rfl; exact rfl)); (first | exact QX.B TYok | exact QX.Ext TYok | exact QX.Build TYok | exact QCd (r1) | exact QCd (r2) | exact QCd (m1) | exact QCd (m2) | exact QCd (m3) | exact QCd (m4) | exact QCd (q1)); exact rfl) | refine SX.Alloc TYok (h := ?_) | refine SX.Store TYok (h := ?_) | refine SX.Box TYok (h := ?_) | refine SC ?_ | refine SG ?_ | (refine W.condA (ht := fun hb => ?_) (hf := fun hb => ?_) <;> (try simp at hb) <;> (try (exfalso; omega))))
  all_goals exact FinM.ret ResM.auto
end
end Go.Proofs.Ytndfnihglpconaa
end
section
set_option linter.unusedVariables false
set_option linter.unusedSimpArgs false
set_option maxHeartbeats 8000000
namespace Go.Proofs.Ytndfnihglpconaa
open Lf Go
attribute [local irreducible] PureOp EffOp Ev RG W Then InBlock Lf.Fin nth App InitE Pick EvL EvD EvP EvR ResL Lf.Lex SubR SubBR FinO FinM ResM ResD FinS val pw digs trimL
section
attribute [local irreducible] sgn mag gcdZ quoZ remZ fullZ fullE
theorem qbelow_ok (n : Nat) : ∀ p q r s : Int, okZ p → okZ q → okZ r → okZ s → 0 < q → 0 < s → (q + s).toNat ≤ n → ACalls Try.prog 41 [zB p, zB q, zB r, zB s] (.pv (cI (cmpI (p * s) (r * q)))) := by
  induction n with
  | zero => intro p q r s _ _ _ _ hq hs hn; exfalso; omega
  | succ n ih =>
    intro p q r s op oq or' os hq hs hn
    have d1 := rdivZ_ok p q op oq (by omega)
    have d2 := rdivZ_ok r s or' os (by omega)
    have k1 := rcmpZ_ok (quoZ p q) (quoZ r s) (okZ_quo op (by omega)) (okZ_quo or' (by omega))
    have hu := (rem_rng (x := p) (y := q) (by omega)).1 hq
    have hv := (rem_rng (x := r) (y := s) (by omega)).1 hs
    have ou := okZ_rem (x := p) oq (by omega)
    have ov := okZ_rem (x := r) os (by omega)
    have cu := sgn_cases (remZ p q)
    have cv := sgn_cases (remZ r s)
    have cc := cmp_cases (quoZ p q) (quoZ r s)
    by_cases h1 : quoZ p q = quoZ r s
    · have e1 := cmp_same h1
      have kc : cmpI (quoZ p q) (quoZ r s) = 0 := by omega
      rw [kc] at k1
      by_cases h2 : remZ p q = 0 ∨ remZ r s = 0
      · have e2 := cmp_end hq hs hu.1 hv.1 h2
        rw [e1, e2]
        have hbad : (¬ sgn (remZ p q) = 0 ∧ ¬ sgn (remZ r s) = 0) → False := fun h => by omega
        generalize quoZ p q = x at *
        generalize remZ p q = u at *
        generalize quoZ r s = y at *
        generalize remZ r s = v at *
        refine ACalls.of_W (qs := [cI (sgn u - sgn v)]) [8] 54 Try.func41 (by kernel_rfl) rfl rfl rfl fun G => ?_
        refine W.initA (hw := ?_)
        repeat' (first | ((first | apply U_ | (apply Ug_; exact rfl; exact rfl) | (apply Ugq_; exact rfl; exact rfl)); (first | exact QX.B TYok | exact QX.Ext TYok | exact QCd (d1) | exact QCd (d2) | exact QCd (k1)); exact rfl) | refine SX.Alloc TYok (h := ?_) | refine SX.Store TYok (h := ?_) | refine SX.Box TYok (h := ?_) | refine SC ?_ | (apply S_isnil TYok; exact rfl; exact rfl; exact rfl; exact Ev.auto; intro bn hnil) | refine SG ?_ | (refine W.condA (ht := fun hb => ?_) (hf := fun hb => ?_) <;> (try simp at hb) <;> (try (exfalso; first | exact hbad hb | omega))))
        all_goals exact Fin.ret ResL.auto
      · have i1 := ih s (remZ r s) q (remZ p q) os ov oq ou (by omega) (by omega) (by omega)
        rw [e1, Int.mul_comm (remZ p q), Int.mul_comm (remZ r s)]
        have hbad : (sgn (remZ p q) = 0 ∨ sgn (remZ r s) = 0) → False := fun h => by omega
        generalize cmpI (s * remZ p q) (q * remZ r s) = c at *
        generalize quoZ p q = x at *
        generalize remZ p q = u at *
        generalize quoZ r s = y at *
        generalize remZ r s = v at *
        refine ACalls.of_W (qs := [cI c]) [8] 54 Try.func41 (by kernel_rfl) rfl rfl rfl fun G => ?_
        refine W.initA (hw := ?_)
        repeat' (first | ((first | apply U_ | (apply Ug_; exact rfl; exact rfl) | (apply Ugq_; exact rfl; exact rfl)); (first | exact QX.B TYok | exact QX.Ext TYok | exact QCd (d1) | exact QCd (d2) | exact QCd (k1) | exact QCd (i1)); exact rfl) | refine SX.Alloc TYok (h := ?_) | refine SX.Store TYok (h := ?_) | refine SX.Box TYok (h := ?_) | refine SC ?_ | (apply S_isnil TYok; exact rfl; exact rfl; exact rfl; exact Ev.auto; intro bn hnil) | refine SG ?_ | (refine W.condA (ht := fun hb => ?_) (hf := fun hb => ?_) <;> (try simp at hb) <;> (try (exfalso; first | exact hbad hb | omega))))
        all_goals exact Fin.ret ResL.auto
    · rw [cmp_quo hq hs h1]
      have hc : ¬ cmpI (quoZ p q) (quoZ r s) = 0 := by omega
      generalize cmpI (quoZ p q) (quoZ r s) = c at *
      generalize quoZ p q = x at *
      generalize remZ p q = u at *
      generalize quoZ r s = y at *
      generalize remZ r s = v at *
      refine ACalls.of_W (qs := [cI c]) [8] 54 Try.func41 (by kernel_rfl) rfl rfl rfl fun G => ?_
      refine W.initA (hw := ?_)
      repeat' (first | ((first | apply U_ | (apply Ug_; exact rfl; exact rfl) | (apply Ugq_; exact rfl; exact rfl)); (first | exact QX.B TYok | exact QX.Ext TYok | exact QCd (d1) | exact QCd (d2) | exact QCd (k1)); exact rfl) | refine SX.Alloc TYok (h := ?_) | refine SX.Store TYok (h := ?_) | refine SX.Box TYok (h := ?_) | refine SC ?_ | (apply S_isnil TYok; exact rfl; exact rfl; exact rfl; exact Ev.auto; intro bn hnil) | refine SG ?_ | (refine W.condA (ht := fun hb => ?_) (hf := fun hb => ?_) <;> (try simp at hb) <;> (try (exfalso; omega))))
      all_goals exact Fin.ret ResL.auto
theorem qcmp_ok (a b : Rat) (ha : okF a) (hb : okF b) : ACalls Try.prog 21 [zF a, zF b] (.pv (cI (cmpR a b))) := by
  have r1 := qright_yes a ha
  have r2 := qright_yes b hb
  have b1 := qbelow_ok _ a.num a.den b.num b.den ha.1 ha.2 hb.1 hb.2 (den_pos a) (den_pos b) (Nat.le_refl _)
  unfold cmpR
  generalize cmpI (a.num * b.den) (b.num * a.den) = c at *
  refine ACalls.of_W (qs := [cI c]) [4] 22 Try.func21 (by kernel_rfl) rfl rfl rfl fun G => ?_
  refine W.initA (hw := ?_)
  repeat' (first | ((first | apply U_ | (apply Ug_; exact rfl; exact rfl) | (apply Ugq_; exact rfl; exact rfl)); (first | exact QX.B TYok | exact QCd (r1) | exact QCd (r2) | exact QCd (b1)); exact rfl) | refine SX.Box TYok (h := ?_) | refine SC ?_ | refine SG ?_ | (refine W.condA (ht := fun hb => ?_) (hf := fun hb => ?_) <;> (try simp at hb) <;> (try (exfalso; omega))))
  all_goals exact Fin.ret ResL.auto
end
section
attribute [local irreducible] sgn mag gcdZ quoZ remZ fullZ fullE
end
section
variable (s s' t t' : Int) (l l' m m' : List Int) (hl : l.length ≤ 9223372036854775807) (hl' : l'.length ≤ 9223372036854775807) (hm : m.length ≤ 9223372036854775807) (hm' : m'.length ≤ 9223372036854775807) (h : ¬ (rightFB s l s' l' = true ∧ rightFB t m t' m' = true))
include hl hl' hm hm' h
end
end Go.Proofs.Ytndfnihglpconaa
end
section
namespace Go.Proofs.Ytndfnihglpconaa.RankLaw
structure Cl where
  frm : Int
  to : Int
  rank : Int
  amt : Int
/-- the sum of the amounts of lesser ranks, and of one rank -/
def less : List Cl → Int → Int
  | [], _ => 0
  | c :: l, k => (if c.rank < k then c.amt else 0) + less l k
def same : List Cl → Int → Int
  | [], _ => 0
  | c :: l, k => (if c.rank = k then c.amt else 0) + same l k
def total : List Cl → Int
  | [] => 0
  | c :: l => c.amt + total l
def okC (c : Cl) : Prop := 0 ≤ c.rank ∧ c.rank ≤ 9 ∧ 0 ≤ c.amt
/-- what a claim gets: A the amounts of lesser ranks, S those of its rank -/
def pay (r : Rat) (A S c : Int) : Rat := if r ≤ A then 0 else if ((A + S : Int) : Rat) ≤ r then c else c * (r - A) / S
/-- what a rank gets -/
def clamp (r : Rat) (A S : Int) : Rat := if r ≤ A then 0 else if ((A + S : Int) : Rat) ≤ r then S else r - A
theorem same_nn {l : List Cl} (h : ∀ c ∈ l, okC c) (k : Int) : 0 ≤ same l k := by
  induction l with
  | nil => exact Int.le_refl _
  | cons c l ih =>
    have h1 := ih fun x hx => h x (List.mem_cons_of_mem _ hx)
    have h2 := (h c (List.mem_cons_self ..)).2.2
    rw [same]; split <;> omega
theorem less_succ (l : List Cl) (k : Int) : less l (k + 1) = less l k + same l k := by
  induction l with
  | nil => rfl
  | cons c l ih =>
    rw [less, less, same, ih]
    by_cases h1 : c.rank < k
    · rw [if_pos (by omega), if_pos h1, if_neg (by omega)]; omega
    · by_cases h2 : c.rank = k
      · rw [if_pos (by omega), if_neg h1, if_pos h2]; omega
      · rw [if_neg (by omega), if_neg h1, if_neg h2]; omega
theorem less_zero {l : List Cl} (h : ∀ c ∈ l, okC c) : less l 0 = 0 := by
  induction l with
  | nil => rfl
  | cons c l ih =>
    have h2 := (h c (List.mem_cons_self ..)).1
    rw [less, if_neg (by omega), ih fun x hx => h x (List.mem_cons_of_mem _ hx)]; rfl
theorem less_all {l : List Cl} (h : ∀ c ∈ l, okC c) : less l 10 = total l := by
  induction l with
  | nil => rfl
  | cons c l ih =>
    have h2 := (h c (List.mem_cons_self ..)).2.1
    rw [less, total, if_pos (by omega), ih fun x hx => h x (List.mem_cons_of_mem _ hx)]
theorem same_ge {l : List Cl} (h : ∀ c ∈ l, okC c) {c : Cl} (hc : c ∈ l) : c.amt ≤ same l c.rank := by
  induction l with
  | nil => cases hc
  | cons x l ih =>
    have hn := same_nn (l := l) (fun y hy => h y (List.mem_cons_of_mem _ hy)) c.rank
    rw [same]
    rcases List.mem_cons.1 hc with rfl | hm
    · rw [if_pos rfl]; omega
    · have h1 := ih (fun y hy => h y (List.mem_cons_of_mem _ hy)) hm
      have h2 := (h x (List.mem_cons_self ..)).2.2
      split <;> omega
theorem clamp_tel {r : Rat} {A S : Int} (hS : 0 ≤ S) : clamp r A S = (if r ≤ ((A + S : Int) : Rat) then r else ((A + S : Int) : Rat)) - (if r ≤ (A : Rat) then r else (A : Rat)) := by
  unfold clamp
  have e : ((A + S : Int) : Rat) = A + S := Rat.intCast_add A S
  have hS' : (0 : Rat) ≤ S := by exact_mod_cast hS
  rw [e]
  repeat' split
  all_goals grind
/-- the part of each amount of a rank that is paid -/
def fac (r : Rat) (A S : Int) : Rat := if r ≤ A then 0 else if ((A + S : Int) : Rat) ≤ r then 1 else (r - A) / S
theorem pay_fac (r : Rat) (A S c : Int) : pay r A S c = c * fac r A S := by
  unfold pay fac
  split
  · rw [Rat.mul_zero]
  · split
    · rw [Rat.mul_one]
    · rw [Rat.div_def, Rat.div_def, Rat.mul_assoc]
theorem fac_clamp {r : Rat} {A S : Int} : S * fac r A S = clamp r A S := by
  have e : ((A + S : Int) : Rat) = A + S := Rat.intCast_add A S
  unfold fac clamp
  split
  · rw [Rat.mul_zero]
  · split
    · rw [Rat.mul_one]
    · rename_i h1 h2
      have h0 : (S : Rat) ≠ 0 := fun q => by rw [e, q] at h2; grind
      rw [Rat.mul_comm, Rat.div_mul_cancel h0]
theorem fac_rng (r : Rat) (A S : Int) : 0 ≤ fac r A S ∧ fac r A S ≤ 1 := by
  have e : ((A + S : Int) : Rat) = A + S := Rat.intCast_add A S
  unfold fac
  split
  · grind
  · split
    · grind
    · rename_i h1 h2
      have h0 : (0 : Rat) < S := by rw [e] at h2; grind
      rw [e] at h2
      have hi : (0 : Rat) < (S : Rat)⁻¹ := Rat.inv_pos.2 h0
      have h1' : (S : Rat) * (S : Rat)⁻¹ = 1 := Rat.mul_inv_cancel _ (by grind)
      rw [Rat.div_def]
      constructor
      · exact Rat.mul_nonneg (by grind) (by grind)
      · have := Rat.mul_nonneg (a := S - (r - A)) (b := (S : Rat)⁻¹) (by grind) (by grind)
        grind
def upto (g : Nat → Rat) : Nat → Rat
  | 0 => 0
  | n + 1 => upto g n + g n
theorem upto_add (f g : Nat → Rat) : ∀ n, upto (fun k => f k + g k) n = upto f n + upto g n
  | 0 => by simp only [upto]; grind
  | n + 1 => by rw [upto, upto, upto, upto_add f g n]; grind
theorem upto_congr {f g : Nat → Rat} : ∀ {n}, (∀ k, k < n → f k = g k) → upto f n = upto g n
  | 0, _ => rfl
  | n + 1, h => by rw [upto, upto, upto_congr fun k hk => h k (by omega), h n (by omega)]
theorem upto_zero : ∀ n, upto (fun _ => 0) n = 0
  | 0 => rfl
  | n + 1 => by rw [upto, upto_zero n]; grind
theorem upto_one (m : Nat) (x : Rat) : ∀ n, upto (fun k => if k = m then x else 0) n = if m < n then x else 0
  | 0 => by simp [upto]
  | n + 1 => by
    rw [upto, upto_one m x n]
    by_cases h1 : m < n
    · rw [if_pos h1, if_neg (by omega), if_pos (by omega)]; grind
    · by_cases h2 : n = m
      · rw [if_neg h1, if_pos h2, if_pos (by omega)]; grind
      · rw [if_neg h1, if_neg h2, if_neg (by omega)]; grind
def sumR : List Rat → Rat
  | [] => 0
  | x :: l => x + sumR l
theorem sum_ranks (f : Int → Rat) {l : List Cl} (h : ∀ c ∈ l, okC c) : sumR (l.map fun c => (c.amt : Rat) * f c.rank) = upto (fun k => (same l k : Rat) * f k) 10 := by
  induction l with
  | nil =>
    rw [upto_congr (g := fun _ => 0) (fun k _ => by simp [same]), upto_zero]; rfl
  | cons c l ih =>
    obtain ⟨h1, h2, h3⟩ := h c (List.mem_cons_self ..)
    rw [List.map_cons, sumR, ih fun x hx => h x (List.mem_cons_of_mem _ hx)]
    have e : upto (fun k => (same (c :: l) k : Rat) * f k) 10 = upto (fun k => (if k = c.rank.toNat then (c.amt : Rat) * f c.rank else 0) + (same l k : Rat) * f k) 10 := by
      refine upto_congr fun k hk => ?_
      by_cases hc : k = c.rank.toNat
      · rw [if_pos hc, same, if_pos (by omega), Rat.intCast_add, show (k : Int) = c.rank by omega]; grind
      · rw [if_neg hc, same, if_neg (by omega), Rat.intCast_add]; grind
    rw [e, upto_add, upto_one, if_pos (by omega)]
def minR (a b : Rat) : Rat := if a ≤ b then a else b
theorem clamp_sum (r : Rat) {l : List Cl} (h : ∀ c ∈ l, okC c) : ∀ n : Nat, upto (fun k => clamp r (less l k) (same l k)) n = minR r (less l n) - minR r (less l 0)
  | 0 => by show (0 : Rat) = _; grind
  | n + 1 => by
    rw [upto, clamp_sum r h n, clamp_tel (same_nn h n), ← less_succ]
    unfold minR
    rw [show ((n : Nat) : Int) + 1 = ((n + 1 : Nat) : Int) by omega]
    grind
def payL (r : Rat) (l : List Cl) : List Rat := l.map fun c => pay r (less l c.rank) (same l c.rank) c.amt
/-- all together get the lesser one of the sum and of all claims -/
theorem pay_sum {r : Rat} (h0 : 0 ≤ r) {l : List Cl} (h : ∀ c ∈ l, okC c) : sumR (payL r l) = minR r (total l) := by
  have e : payL r l = l.map fun c => (c.amt : Rat) * fac r (less l c.rank) (same l c.rank) := by
    unfold payL
    exact List.map_congr_left fun c _ => pay_fac _ _ _ _
  rw [e, sum_ranks (fun k => fac r (less l k) (same l k)) h]
  have e2 : upto (fun k => (same l k : Rat) * fac r (less l k) (same l k)) 10 = upto (fun k => clamp r (less l k) (same l k)) 10 := upto_congr fun k _ => fac_clamp
  rw [e2, clamp_sum r h 10, less_zero h, show less l ((10 : Nat) : Int) = total l from less_all h]
  have : minR r ((0 : Int) : Rat) = 0 := by
    unfold minR
    split <;> grind
  rw [this]; grind
/-- nobody gets more than is owed, or less than nothing -/
theorem pay_rng (r : Rat) (A S : Int) {c : Int} (hc : 0 ≤ c) : 0 ≤ pay r A S c ∧ pay r A S c ≤ c := by
  have h := fac_rng r A S
  have hc' : (0 : Rat) ≤ c := by exact_mod_cast hc
  rw [pay_fac]
  have h1 := Rat.mul_nonneg hc' h.1
  have h2 := Rat.mul_nonneg hc' (show 0 ≤ 1 - fac r A S by grind)
  constructor <;> grind
/-- two claims of one rank get the same part -/
theorem pay_part (r : Rat) (A S c d : Int) : pay r A S c * d = pay r A S d * c := by
  rw [pay_fac, pay_fac]; grind
/-- who gets all, and who gets nothing -/
theorem pay_full {r : Rat} {A S c : Int} (h : ((A + S : Int) : Rat) ≤ r) (hS : c ≤ S) (hc : 0 ≤ c) : pay r A S c = c := by
  unfold pay
  have e : ((A + S : Int) : Rat) = A + S := Rat.intCast_add A S
  have hS' : (c : Rat) ≤ S := by exact_mod_cast hS
  have hc' : (0 : Rat) ≤ c := by exact_mod_cast hc
  split
  · rw [e] at h; grind
  · first | rw [if_pos h] | rfl
theorem pay_none {r : Rat} {A S c : Int} (h : r ≤ A) : pay r A S c = 0 := if_pos h
/-- who does not get all: the sum ends within the rank -/
theorem pay_short {r : Rat} {A S c : Int} (hS : c ≤ S) (hc : 0 ≤ c) (h : pay r A S c ≠ c) : r < ((A + S : Int) : Rat) := by
  by_cases k : ((A + S : Int) : Rat) ≤ r
  · exact absurd (pay_full k hS hc) h
  · grind
theorem less_mono {l : List Cl} (h : ∀ c ∈ l, okC c) {j k : Int} (hjk : j < k) : less l j + same l j ≤ less l k := by
  induction l with
  | nil => exact Int.le_refl _
  | cons c l ih =>
    have h1 := ih fun x hx => h x (List.mem_cons_of_mem _ hx)
    have h2 := (h c (List.mem_cons_self ..)).2.2
    rw [less, same, less]
    split <;> split <;> split <;> omega
/-- what is left for a rank -/
def rest (r : Rat) (l : List Cl) (k : Int) : Rat := if r ≤ less l k then 0 else r - less l k
theorem rest_zero {r : Rat} (h0 : 0 ≤ r) {l : List Cl} (h : ∀ c ∈ l, okC c) : rest r l 0 = r := by
  unfold rest
  rw [less_zero h]
  split <;> grind
theorem rest_nn (r : Rat) (l : List Cl) (k : Int) : 0 ≤ rest r l k := by
  unfold rest
  split <;> grind
theorem rest_next {r : Rat} {l : List Cl} (h : ∀ c ∈ l, okC c) (k : Int) : rest r l (k + 1) = if (same l k : Rat) ≤ rest r l k then rest r l k - same l k else 0 := by
  have hs : (0 : Rat) ≤ same l k := by exact_mod_cast same_nn h k
  unfold rest
  rw [less_succ, Rat.intCast_add]
  repeat' split
  all_goals grind
theorem rest_pay {r : Rat} {l : List Cl} (h : ∀ c ∈ l, okC c) {c : Cl} (hc : c ∈ l) :
    (if (same l c.rank : Rat) ≤ rest r l c.rank then (c.amt : Rat) else c.amt * rest r l c.rank / same l c.rank) = pay r (less l c.rank) (same l c.rank) c.amt := by
  have h1 := same_ge h hc
  have h2 := (h c hc).2.2
  have h1' : (c.amt : Rat) ≤ same l c.rank := by exact_mod_cast h1
  have h2' : (0 : Rat) ≤ c.amt := by exact_mod_cast h2
  unfold rest pay
  rw [Rat.intCast_add]
  by_cases k1 : r ≤ less l c.rank
  · rw [if_pos k1, if_pos k1]
    split
    · grind
    · rw [Rat.mul_zero, Rat.div_def, Rat.zero_mul]
  · rw [if_neg k1, if_neg k1]
    by_cases k2 : (less l c.rank : Rat) + same l c.rank ≤ r
    · rw [if_pos k2, if_pos (by grind)]
    · rw [if_neg k2, if_neg (by grind)]
theorem short_none {r : Rat} {l : List Cl} (h : ∀ c ∈ l, okC c) {c d : Cl} (hc : c ∈ l) (hlt : pay r (less l c.rank) (same l c.rank) c.amt < c.amt) (hr : c.rank < d.rank) : pay r (less l d.rank) (same l d.rank) d.amt = 0 := by
  have h1 := pay_short (r := r) (A := less l c.rank) (same_ge h hc) (h c hc).2.2 (by grind)
  have h2 := less_mono h hr
  have h2' : ((less l c.rank + same l c.rank : Int) : Rat) ≤ less l d.rank := by exact_mod_cast h2
  exact pay_none (by grind)
theorem full_of {r : Rat} {A S c : Int} (hc : 0 ≤ c) (h : ¬ pay r A S c < c) : pay r A S c = c := by
  have := (pay_rng r A S hc).2
  grind
theorem same_snoc (l : List Cl) (c : Cl) (k : Int) : same (l ++ [c]) k = same l k + (if c.rank = k then c.amt else 0) := by
  induction l with
  | nil => simp [same]
  | cons x l ih => rw [List.cons_append, same, same, ih]; omega
theorem total_snoc (l : List Cl) (c : Cl) : total (l ++ [c]) = total l + c.amt := by
  induction l with
  | nil => simp [total]
  | cons x l ih => rw [List.cons_append, total, total, ih]; omega
theorem sums_le {l : List Cl} {M : Int} (hM : 0 ≤ M) (h : ∀ c ∈ l, 0 ≤ c.amt ∧ c.amt ≤ M) (k : Int) : (0 ≤ less l k ∧ less l k ≤ M * l.length) ∧ (0 ≤ same l k ∧ same l k ≤ M * l.length) ∧ (0 ≤ total l ∧ total l ≤ M * l.length) := by
  induction l with
  | nil => simp [less, same, total]
  | cons c l ih =>
    have h1 := ih fun x hx => h x (List.mem_cons_of_mem _ hx)
    have h2 := h c (List.mem_cons_self ..)
    rw [less, same, total, List.length_cons, show ((l.length + 1 : Nat) : Int) = l.length + 1 by omega, Int.mul_add, Int.mul_one]
    refine ⟨?_, ?_, ?_⟩
    · split <;> omega
    · split <;> omega
    · omega
end Go.Proofs.Ytndfnihglpconaa.RankLaw
end
section
set_option linter.unusedVariables false
set_option linter.unusedSimpArgs false
set_option maxHeartbeats 8000000
namespace Go.Proofs.Ytndfnihglpconaa
open Lf Go
attribute [local irreducible] PureOp EffOp Ev RG W Then InBlock Lf.Fin nth App InitE Pick EvL EvD EvP EvR ResL Lf.Lex SubR SubBR FinO FinM ResM ResD FinS val pw digs trimL
section
open RankLaw
instance : Inhabited Cl := ⟨⟨0, 0, 0, 0⟩⟩
abbrev encC (c : Cl) : List Cell := [.int .i64 c.frm, .int .i64 c.to, .int .i64 c.rank, .int .i64 c.amt]
abbrev slC (l : List Cl) : PV := .one (.sl (l.map encC))
theorem within_ok (n a b : Int) : ACalls Try.prog 51 [cI n, cI a, cI b] (.pv (cB (decide (a ≤ n) && decide (n ≤ b)))) := by
  refine ACalls.of_W (qs := [cB (decide (a ≤ n) && decide (n ≤ b))]) [6] 15 Try.func51 (by kernel_rfl) rfl rfl rfl fun G => ?_
  refine W.initA (hw := ?_)
  repeat' (first | ((first | apply U_ | (apply Ug_; exact rfl; exact rfl) | (apply Ugq_; exact rfl; exact rfl)); (first | exact QX.B TYok); exact rfl) | refine SC ?_ | refine SG ?_ | (refine W.condA (ht := fun hb => ?_) (hf := fun hb => ?_) <;> (try simp at hb) <;> (try (exfalso; omega))))
  all_goals exact Fin.ret ResL.auto
theorem divInt_one (n : Int) : Rat.divInt n 1 = (n : Rat) := by
  obtain ⟨h1, h2⟩ := rat_of (x := n) (y := 1) (by decide) (by unfold gcdZ; simp)
  refine Rat.ext ?_ ?_
  · rw [h1]; rfl
  · have : ((n : Rat).den : Int) = 1 := rfl
    omega
theorem okF_int {n : Int} (h : i64B n) : okF (n : Rat) := by
  rw [← divInt_one]
  exact okF_of (i64_ok h) (i64_ok (by unfold i64B; omega)) (by omega)
theorem whole_ok (n : Int) (h : i64B n) : ACalls Try.prog 27 [cI n] (.pv (zF (n : Rat))) := by
  have n1 := Of_ok n 1 h (by unfold i64B; omega) (by omega)
  rw [divInt_one] at n1
  generalize (n : Rat) = r at *
  refine ACalls.of_M TYok (qs := [zF r]) [.cell 2 26] 11 Try.func27 (by kernel_rfl) rfl rfl rfl fun G => ?_
  refine W.initA (hw := ?_)
  repeat' (first | ((first | apply U_); (first | exact QX.B TYok | exact QX.Ext TYok | exact QCd (n1)); exact rfl) | refine SX.Alloc TYok (h := ?_) | refine SX.Store TYok (h := ?_) | refine SC ?_ | (refine W.condA (ht := fun hb => ?_) (hf := fun hb => ?_) <;> (try simp at hb) <;> (try (exfalso; omega))))
  all_goals exact FinM.ret ResM.auto
theorem qOf_ok (n m : Int) (h : i64B n) (hm : i64B m) (h0 : m ≠ 0) : ACalls Try.prog 34 [cI n, cI m] (.pv (zF (Rat.divInt n m))) := by
  have n1 := qof_ok n m h hm h0
  generalize Rat.divInt n m = r at *
  refine ACalls.of_M TYok (qs := [zF r]) [.cell 4 26] 14 Try.func34 (by kernel_rfl) rfl rfl rfl fun G => ?_
  refine W.initA (hw := ?_)
  repeat' (first | ((first | apply U_); (first | exact QX.B TYok | exact QX.Ext TYok | exact QCd (n1)); exact rfl) | refine SX.Alloc TYok (h := ?_) | refine SX.Store TYok (h := ?_) | refine SC ?_ | (refine W.condA (ht := fun hb => ?_) (hf := fun hb => ?_) <;> (try simp at hb) <;> (try (exfalso; omega))))
  all_goals exact FinM.ret ResM.auto
theorem qwhole_ok (n : Int) (h : i64B n) : ACalls Try.prog 34 [cI n, cI 1] (.pv (zF (n : Rat))) := by
  rw [← divInt_one]
  exact qOf_ok n 1 h (by unfold i64B; omega) (by omega)
/-- one claim is right, for an issuer -/
def okB (f : Int) (c : Cl) : Bool := (decide (0 ≤ c.frm) && decide (c.frm ≤ 59)) && (decide (-1 ≤ c.to) && decide (c.to ≤ 59)) && (decide (0 ≤ c.rank) && decide (c.rank ≤ 9)) && (decide (0 ≤ c.amt) && decide (c.amt ≤ 1000000000000000)) && decide (c.frm = f)
def rightC (l : List Cl) : Bool := l.all (okB (nth l 0).frm) && decide ((l.length : Int) ≤ 2000)
theorem okB_iff (f : Int) (c : Cl) : okB f c = true ↔ (0 ≤ c.frm ∧ c.frm ≤ 59) ∧ (-1 ≤ c.to ∧ c.to ≤ 59) ∧ (0 ≤ c.rank ∧ c.rank ≤ 9) ∧ (0 ≤ c.amt ∧ c.amt ≤ 1000000000000000) ∧ c.frm = f := by
  unfold okB
  simp only [Bool.and_eq_true, decide_eq_true_iff, and_assoc]
theorem all_drop {p : Cl → Bool} {l : List Cl} {k : Nat} (h : k < l.length) : (l.drop k).all p = (p (nth l k) && (l.drop (k + 1)).all p) := by
  rw [drop_nth h, List.all_cons]
theorem pright_ok (l : List Cl) (hl : l.length ≤ 9223372036854775807) : ACalls Try.prog 28 [slC l] (.pv (cB (rightC l))) := by
  have hw := within_ok
  refine ACalls.of_W (qs := [cB (rightC l)]) [2] 46 Try.func28 (by kernel_rfl) rfl rfl rfl fun G => ?_
  refine W.initA (hw := ?_)
  repeat' (first | ((first | apply U_ | (apply Ug_; exact rfl; exact rfl) | (apply Ugq_; exact rfl; exact rfl) | apply Lex.u | (apply Lex.g; exact rfl; exact rfl) | (apply Lex.gq; exact rfl; exact rfl)); (first | exact QX.B TYok | exact QX.Len TYok | exact QX.Idx TYok); exact rfl) | refine SX.Alloc TYok (h := ?_) | refine SX.Store TYok (h := ?_) | refine SC ?_ | refine SG ?_ | (apply W.draw2 (id := 4) [0, 1, 3, 7, 15, 31, 63, 127, 255, 511, 1023, 2047, 4095, 8191, 16383, 32767, 65535, 131071, 262143, 524287, 1048575, 2097151, 4194303, 8388607, 16777215, 8388607, 41943039, 109051903, 243269631, 536870911, 1073741823] [[4], [11], [12], [13], [14], [4, 15], [16, 15], [17, 15], [18, 15], [15, 19], [20], [4, 21], [22, 21], [23, 21], [24, 21], [21, 25], [26], [4, 27], [28, 27], [29, 27], [30, 27], [27, 31], [32], [4, 33], [34, 33], [0, 33], [36, 33], [37, 33], [38, 33], [35, 39, 33], [33, 40]] 31 [(11, 16), (12, 2048), (13, 4096), (14, 8192), (15, 16384), (16, 32784), (17, 98304), (18, 163840), (19, 294912), (20, 557056), (21, 1048576), (22, 2097168), (23, 6291456), (24, 10485760), (25, 18874368), (26, 35651584), (27, 67108864), (28, 134217744), (29, 402653184), (30, 671088640), (31, 1207959552), (32, 2281701376), (33, 4294967296), (34, 8589934608), (35, 25769803776), (36, 8589934593), (37, 77309411328), (38, 146028888064), (39, 283467841536), (40, 592705486848), (41, 1108101562368)] mixed (by kernel_rfl) rfl rfl) | (refine W.condA (ht := fun hb => ?_) (hf := fun hb => ?_) <;> (try simp at hb) <;> (try (exfalso; omega))))
  apply W.loopP (σ := Nat) 46 [0, 5, 6] (fun k => k ≤ l.length ∧ l.all (okB (nth l 0).frm) = (l.drop k).all (okB (nth l 0).frm)) (fun k => [(7, vI k)]) (fun _ => []) (fun k => l.length - k) (0)
  case hp => repeat (first | exact Pick.nil | apply Pick.cons rfl)
  case h0 =>
    refine ⟨by simp, ?_⟩
    exact Le.auto
  case round =>
    rintro k ⟨g1, g2⟩
    apply W.norm (by repeat (first | exact App.nil | apply App.cons))
    by_cases hk : k < l.length
    · rw [all_drop hk] at g2
      have hi := okB_iff (nth l 0).frm (nth l k)
      cases hb2 : okB (nth l 0).frm (nth l k) with
      | false =>
        have e : rightC l = false := by unfold rightC; rw [g2, hb2]; rfl
        rw [e]
        rw [hb2] at hi
        have hn : ¬ ((0 ≤ (nth l k).frm ∧ (nth l k).frm ≤ 59) ∧ (-1 ≤ (nth l k).to ∧ (nth l k).to ≤ 59) ∧ (0 ≤ (nth l k).rank ∧ (nth l k).rank ≤ 9) ∧ (0 ≤ (nth l k).amt ∧ (nth l k).amt ≤ 1000000000000000) ∧ (nth l k).frm = (nth l 0).frm) := fun h => by have := hi.2 h; cases this
        repeat' (first | ((first | apply U_ | (apply Ug_; exact rfl; exact rfl) | (apply Ugq_; exact rfl; exact rfl) | apply Lex.u | (apply Lex.g; exact rfl; exact rfl) | (apply Lex.gq; exact rfl; exact rfl)); (first | exact QX.B TYok | exact QX.Len TYok | exact QX.Idx TYok | exact QCd (hw _ _ _)); exact rfl) | refine SX.Alloc TYok (h := ?_) | refine SX.Store TYok (h := ?_) | refine SC ?_ | refine SG ?_ | (apply W.draw2 (id := 4) [0, 1, 3, 7, 15, 31, 63, 127, 255, 511, 1023, 2047, 4095, 8191, 16383, 32767, 65535, 131071, 262143, 524287, 1048575, 2097151, 4194303, 8388607, 16777215, 8388607, 41943039, 109051903, 243269631, 536870911, 1073741823] [[4], [11], [12], [13], [14], [4, 15], [16, 15], [17, 15], [18, 15], [15, 19], [20], [4, 21], [22, 21], [23, 21], [24, 21], [21, 25], [26], [4, 27], [28, 27], [29, 27], [30, 27], [27, 31], [32], [4, 33], [34, 33], [0, 33], [36, 33], [37, 33], [38, 33], [35, 39, 33], [33, 40]] 31 [(11, 16), (12, 2048), (13, 4096), (14, 8192), (15, 16384), (16, 32784), (17, 98304), (18, 163840), (19, 294912), (20, 557056), (21, 1048576), (22, 2097168), (23, 6291456), (24, 10485760), (25, 18874368), (26, 35651584), (27, 67108864), (28, 134217744), (29, 402653184), (30, 671088640), (31, 1207959552), (32, 2281701376), (33, 4294967296), (34, 8589934608), (35, 25769803776), (36, 8589934593), (37, 77309411328), (38, 146028888064), (39, 283467841536), (40, 592705486848), (41, 1108101562368)] mixed (by kernel_rfl) rfl rfl) | (refine W.condA (ht := fun hb => ?_) (hf := fun hb => ?_) <;> (try simp at hb) <;> (try (exfalso; omega))))
        all_goals first
          | exact Fin.ret ResL.auto
          | (exfalso; omega)
          | trace_state
      | true =>
        rw [hb2, Bool.true_and] at g2
        rw [hb2] at hi
        obtain ⟨i1, i2, i3, i4, i5⟩ := hi.1 rfl
        repeat' (first | ((first | apply U_ | (apply Ug_; exact rfl; exact rfl) | (apply Ugq_; exact rfl; exact rfl) | apply Lex.u | (apply Lex.g; exact rfl; exact rfl) | (apply Lex.gq; exact rfl; exact rfl)); (first | exact QX.B TYok | exact QX.Len TYok | exact QX.Idx TYok | exact QCd (hw _ _ _)); exact rfl) | refine SX.Alloc TYok (h := ?_) | refine SX.Store TYok (h := ?_) | refine SC ?_ | refine SG ?_ | (apply W.draw2 (id := 4) [0, 1, 3, 7, 15, 31, 63, 127, 255, 511, 1023, 2047, 4095, 8191, 16383, 32767, 65535, 131071, 262143, 524287, 1048575, 2097151, 4194303, 8388607, 16777215, 8388607, 41943039, 109051903, 243269631, 536870911, 1073741823] [[4], [11], [12], [13], [14], [4, 15], [16, 15], [17, 15], [18, 15], [15, 19], [20], [4, 21], [22, 21], [23, 21], [24, 21], [21, 25], [26], [4, 27], [28, 27], [29, 27], [30, 27], [27, 31], [32], [4, 33], [34, 33], [0, 33], [36, 33], [37, 33], [38, 33], [35, 39, 33], [33, 40]] 31 [(11, 16), (12, 2048), (13, 4096), (14, 8192), (15, 16384), (16, 32784), (17, 98304), (18, 163840), (19, 294912), (20, 557056), (21, 1048576), (22, 2097168), (23, 6291456), (24, 10485760), (25, 18874368), (26, 35651584), (27, 67108864), (28, 134217744), (29, 402653184), (30, 671088640), (31, 1207959552), (32, 2281701376), (33, 4294967296), (34, 8589934608), (35, 25769803776), (36, 8589934593), (37, 77309411328), (38, 146028888064), (39, 283467841536), (40, 592705486848), (41, 1108101562368)] mixed (by kernel_rfl) rfl rfl) | (refine W.condA (ht := fun hb => ?_) (hf := fun hb => ?_) <;> (try simp at hb) <;> (try (exfalso; omega))))
        all_goals first
          | (refine ⟨k + 1, ⟨by omega, g2⟩, ?_, by omega⟩; exact Le.auto)
          | trace_state
    · obtain rfl : k = l.length := by omega
      rw [List.drop_length] at g2
      have e : rightC l = decide ((l.length : Int) ≤ 2000) := by unfold rightC; rw [g2]; rfl
      rw [e]
      repeat' (first | ((first | apply U_ | (apply Ug_; exact rfl; exact rfl) | (apply Ugq_; exact rfl; exact rfl) | apply Lex.u | (apply Lex.g; exact rfl; exact rfl) | (apply Lex.gq; exact rfl; exact rfl)); (first | exact QX.B TYok | exact QX.Len TYok | exact QX.Idx TYok); exact rfl) | refine SX.Alloc TYok (h := ?_) | refine SX.Store TYok (h := ?_) | refine SC ?_ | refine SG ?_ | (apply W.draw2 (id := 4) [0, 1, 3, 7, 15, 31, 63, 127, 255, 511, 1023, 2047, 4095, 8191, 16383, 32767, 65535, 131071, 262143, 524287, 1048575, 2097151, 4194303, 8388607, 16777215, 8388607, 41943039, 109051903, 243269631, 536870911, 1073741823] [[4], [11], [12], [13], [14], [4, 15], [16, 15], [17, 15], [18, 15], [15, 19], [20], [4, 21], [22, 21], [23, 21], [24, 21], [21, 25], [26], [4, 27], [28, 27], [29, 27], [30, 27], [27, 31], [32], [4, 33], [34, 33], [0, 33], [36, 33], [37, 33], [38, 33], [35, 39, 33], [33, 40]] 31 [(11, 16), (12, 2048), (13, 4096), (14, 8192), (15, 16384), (16, 32784), (17, 98304), (18, 163840), (19, 294912), (20, 557056), (21, 1048576), (22, 2097168), (23, 6291456), (24, 10485760), (25, 18874368), (26, 35651584), (27, 67108864), (28, 134217744), (29, 402653184), (30, 671088640), (31, 1207959552), (32, 2281701376), (33, 4294967296), (34, 8589934608), (35, 25769803776), (36, 8589934593), (37, 77309411328), (38, 146028888064), (39, 283467841536), (40, 592705486848), (41, 1108101562368)] mixed (by kernel_rfl) rfl rfl) | (refine W.condA (ht := fun hb => ?_) (hf := fun hb => ?_) <;> (try simp at hb) <;> (try (exfalso; omega))))
      exact Fin.ret ResL.auto
theorem rrightC_ok (l : List Cl) (hl : l.length ≤ 9223372036854775807) : ACalls Try.prog 14 [slC l] (.pv (cB (rightC l))) := by
  by_cases h2 : (l.length : Int) ≤ 2000
  case neg =>
    have e : rightC l = false := by unfold rightC; rw [decide_eq_false h2, Bool.and_false]
    rw [e]
    refine ACalls.of_W (qs := [cB false]) [2] 63 Try.func14 (by kernel_rfl) rfl rfl rfl fun G => ?_
    refine W.initA (hw := ?_)
    repeat' (first | (exfalso; omega) | ((first | apply U_ | (apply Ug_; exact rfl; exact rfl) | (apply Ugq_; exact rfl; exact rfl) | apply Lex.u | (apply Lex.g; exact rfl; exact rfl) | (apply Lex.gq; exact rfl; exact rfl)); (first | exact QX.B TYok | exact QX.Len TYok | exact QX.Idx TYok); exact rfl) | refine SX.Alloc TYok (h := ?_) | refine SX.Store TYok (h := ?_) | refine SC ?_ | refine SG ?_ | (apply W.draw2 (id := 9) [0, 1, 0, 4, 12, 28, 63] [[4], [56], [0], [58], [59], [60], [57, 61]] 7 [(56, 16), (57, 72057594037927936), (58, 1), (59, 288230376151711744), (60, 576460752303423488), (61, 1152921504606846976), (62, 2449958197289549824)] mixed (by kernel_rfl) rfl rfl) | (refine W.condA (ht := fun hb => ?_) (hf := fun hb => ?_) <;> (try simp at hb) <;> (try (exfalso; omega))))
    all_goals exact Fin.ret ResL.auto
  have er : rightC l = l.all (okB (nth l 0).frm) := by unfold rightC; rw [decide_eq_true h2, Bool.and_true]
  rw [er]
  refine ACalls.of_W (qs := [cB (l.all (okB (nth l 0).frm))]) [2] 63 Try.func14 (by kernel_rfl) rfl rfl rfl fun G => ?_
  refine W.initA (hw := ?_)
  repeat' (first | (exfalso; omega) | ((first | apply U_ | (apply Ug_; exact rfl; exact rfl) | (apply Ugq_; exact rfl; exact rfl) | apply Lex.u | (apply Lex.g; exact rfl; exact rfl) | (apply Lex.gq; exact rfl; exact rfl)); (first | exact QX.B TYok | exact QX.Len TYok | exact QX.Idx TYok); exact rfl) | refine SX.Alloc TYok (h := ?_) | refine SX.Store TYok (h := ?_) | refine SC ?_ | refine SG ?_ | (apply W.draw2 (id := 9) [0, 1, 0, 4, 12, 28, 63] [[4], [56], [0], [58], [59], [60], [57, 61]] 7 [(56, 16), (57, 72057594037927936), (58, 1), (59, 288230376151711744), (60, 576460752303423488), (61, 1152921504606846976), (62, 2449958197289549824)] mixed (by kernel_rfl) rfl rfl) | (refine W.condA (ht := fun hb => ?_) (hf := fun hb => ?_) <;> (try simp at hb) <;> (try (exfalso; omega))))
  apply W.loopP (σ := Nat) 63 [0] (fun k => k ≤ l.length ∧ l.all (okB (nth l 0).frm) = (l.drop k).all (okB (nth l 0).frm)) (fun k => [(3, vI k)]) (fun _ => []) (fun k => l.length - k) (0)
  case hp => repeat (first | exact Pick.nil | apply Pick.cons rfl)
  case h0 =>
    refine ⟨by simp, ?_⟩
    exact Le.auto
  case round =>
    rintro k ⟨g1, g2⟩
    apply W.norm (by repeat (first | exact App.nil | apply App.cons))
    by_cases hk : k < l.length
    · rw [all_drop hk] at g2
      have hi := okB_iff (nth l 0).frm (nth l k)
      cases hb2 : okB (nth l 0).frm (nth l k) with
      | false =>
        rw [hb2] at hi g2
        have hn : ¬ ((0 ≤ (nth l k).frm ∧ (nth l k).frm ≤ 59) ∧ (-1 ≤ (nth l k).to ∧ (nth l k).to ≤ 59) ∧ (0 ≤ (nth l k).rank ∧ (nth l k).rank ≤ 9) ∧ (0 ≤ (nth l k).amt ∧ (nth l k).amt ≤ 1000000000000000) ∧ (nth l k).frm = (nth l 0).frm) := fun h => by have := hi.2 h; cases this
        rw [g2, Bool.false_and]
        repeat' (first | ((first | apply U_ | (apply Ug_; exact rfl; exact rfl) | (apply Ugq_; exact rfl; exact rfl) | apply Lex.u | (apply Lex.g; exact rfl; exact rfl) | (apply Lex.gq; exact rfl; exact rfl)); (first | exact QX.B TYok | exact QX.Len TYok | exact QX.Idx TYok); exact rfl) | refine SX.Alloc TYok (h := ?_) | refine SX.Store TYok (h := ?_) | refine SC ?_ | refine SG ?_ | (apply W.draw2 (id := 9) [0, 1, 0, 4, 12, 28, 63] [[4], [56], [0], [58], [59], [60], [57, 61]] 7 [(56, 16), (57, 72057594037927936), (58, 1), (59, 288230376151711744), (60, 576460752303423488), (61, 1152921504606846976), (62, 2449958197289549824)] mixed (by kernel_rfl) rfl rfl) | (refine W.condA (ht := fun hb => ?_) (hf := fun hb => ?_) <;> (try simp at hb) <;> (try (exfalso; omega))))
        all_goals first
          | exact Fin.ret ResL.auto
          | (exfalso; omega)
          | trace_state
      | true =>
        rw [hb2, Bool.true_and] at g2
        rw [hb2] at hi
        obtain ⟨i1, i2, i3, i4, i5⟩ := hi.1 rfl
        repeat' (first | ((first | apply U_ | (apply Ug_; exact rfl; exact rfl) | (apply Ugq_; exact rfl; exact rfl) | apply Lex.u | (apply Lex.g; exact rfl; exact rfl) | (apply Lex.gq; exact rfl; exact rfl)); (first | exact QX.B TYok | exact QX.Len TYok | exact QX.Idx TYok); exact rfl) | refine SX.Alloc TYok (h := ?_) | refine SX.Store TYok (h := ?_) | refine SC ?_ | refine SG ?_ | (apply W.draw2 (id := 9) [0, 1, 0, 4, 12, 28, 63] [[4], [56], [0], [58], [59], [60], [57, 61]] 7 [(56, 16), (57, 72057594037927936), (58, 1), (59, 288230376151711744), (60, 576460752303423488), (61, 1152921504606846976), (62, 2449958197289549824)] mixed (by kernel_rfl) rfl rfl) | (refine W.condA (ht := fun hb => ?_) (hf := fun hb => ?_) <;> (try simp at hb) <;> (try (exfalso; omega))))
        all_goals first
          | (refine ⟨k + 1, ⟨by omega, g2⟩, ?_, by omega⟩; exact Le.auto)
          | (exfalso; omega)
          | trace_state
    · obtain rfl : k = l.length := by omega
      rw [List.drop_length] at g2
      rw [g2]
      repeat' (first | ((first | apply U_ | (apply Ug_; exact rfl; exact rfl) | (apply Ugq_; exact rfl; exact rfl) | apply Lex.u | (apply Lex.g; exact rfl; exact rfl) | (apply Lex.gq; exact rfl; exact rfl)); (first | exact QX.B TYok | exact QX.Len TYok | exact QX.Idx TYok); exact rfl) | refine SX.Alloc TYok (h := ?_) | refine SX.Store TYok (h := ?_) | refine SC ?_ | refine SG ?_ | (apply W.draw2 (id := 9) [0, 1, 0, 4, 12, 28, 63] [[4], [56], [0], [58], [59], [60], [57, 61]] 7 [(56, 16), (57, 72057594037927936), (58, 1), (59, 288230376151711744), (60, 576460752303423488), (61, 1152921504606846976), (62, 2449958197289549824)] mixed (by kernel_rfl) rfl rfl) | (refine W.condA (ht := fun hb => ?_) (hf := fun hb => ?_) <;> (try simp at hb) <;> (try (exfalso; omega))))
      exact Fin.ret ResL.auto
end
end Go.Proofs.Ytndfnihglpconaa
end
section
set_option linter.unusedVariables false
set_option linter.unusedSimpArgs false
set_option maxHeartbeats 8000000
namespace Go.Proofs.Ytndfnihglpconaa
open Lf Go
attribute [local irreducible] PureOp EffOp Ev RG W Then InBlock Lf.Fin nth App InitE Pick EvL EvD EvP EvR ResL Lf.Lex SubR SubBR FinO FinM ResM ResD FinS val pw digs trimL
section
open RankLaw
def amtOk (l : List Cl) : Prop := ∀ c ∈ l, 0 ≤ c.amt ∧ c.amt ≤ 1000000000000000
theorem amt_nth {l : List Cl} (h : amtOk l) {k : Nat} (hk : k < l.length) : 0 ≤ (nth l k).amt ∧ (nth l k).amt ≤ 1000000000000000 := h _ (nth_mem hk)
theorem amt_take {l : List Cl} (h : amtOk l) (k : Nat) : amtOk (l.take k) := fun c hc => h c (List.mem_of_mem_take hc)
theorem take_sums {l : List Cl} (h : amtOk l) (hl : l.length ≤ 2000) (j : Nat) (k : Int) : (0 ≤ less (l.take j) k ∧ less (l.take j) k ≤ 2000000000000000000) ∧ (0 ≤ same (l.take j) k ∧ same (l.take j) k ≤ 2000000000000000000) ∧ (0 ≤ total (l.take j) ∧ total (l.take j) ≤ 2000000000000000000) := by
  have h1 := sums_le (M := 1000000000000000) (by omega) (amt_take h j) k
  have h2 : (l.take j).length ≤ 2000 := by simp; omega
  omega
theorem total_ok (l : List Cl) (h : amtOk l) (hl : l.length ≤ 2000) : ACalls Try.prog 20 [slC l] (.pv (cI (total l))) := by
  refine ACalls.of_W (qs := [cI (total l)]) [2] 19 Try.func20 (by kernel_rfl) rfl rfl rfl fun G => ?_
  refine W.initA (hw := ?_)
  repeat' (first | ((first | apply U_); (first | exact QX.B TYok | exact QX.Len TYok | exact QX.Idx TYok); exact rfl) | refine SC ?_ | (refine W.condA (ht := fun hb => ?_) (hf := fun hb => ?_) <;> (try simp at hb) <;> (try (exfalso; omega))))
  apply W.loopP (σ := Nat) 19 [0] (fun j => j ≤ l.length) (fun j => [(4, vI j), (3, vI (total (l.take j)))]) (fun _ => []) (fun j => l.length - j) (0)
  case hp => repeat (first | exact Pick.nil | apply Pick.cons rfl)
  case h0 =>
    refine ⟨by omega, ?_⟩
    exact Le.auto
  case round =>
    rintro j g1
    apply W.norm (by repeat (first | exact App.nil | apply App.cons))
    by_cases hj : j < l.length
    · have b := take_sums h hl j 0
      have c := amt_nth h hj
      have e1 := total_snoc (l.take j) (nth l j)
      rw [← take_nth hj] at e1
      generalize total (l.take j) = A at *
      repeat' (first | ((first | apply U_); (first | exact QX.B TYok | exact QX.Len TYok | exact QX.Idx TYok); exact rfl) | refine SC ?_ | (refine W.condA (ht := fun hb => ?_) (hf := fun hb => ?_) <;> (try simp at hb) <;> (try (exfalso; omega))))
      refine ⟨j + 1, by omega, ?_, by omega⟩
      (try dsimp only)
      rw [e1]
      exact Le.auto
    · obtain rfl : j = l.length := by omega
      rw [List.take_length]
      repeat' (first | ((first | apply U_); (first | exact QX.B TYok | exact QX.Len TYok | exact QX.Idx TYok); exact rfl) | refine SC ?_ | (refine W.condA (ht := fun hb => ?_) (hf := fun hb => ?_) <;> (try simp at hb) <;> (try (exfalso; omega))))
      exact Fin.ret ResL.auto
theorem rfew_ok (s : Int) (d : List Int) (s' : Int) (d' : List Int) (l : List Cl) (hd : d.length ≤ 9223372036854775807) (hd' : d'.length ≤ 9223372036854775807) (hl : l.length ≤ 9223372036854775807) : ACalls Try.prog 8 [fB s d s' d', slC l] (.pv (cB ((decide ((l.length : Int) ≤ 20) && decide ((d.length : Int) ≤ 20)) && decide ((d'.length : Int) ≤ 20)))) := by
  refine ACalls.of_W (qs := [cB ((decide ((l.length : Int) ≤ 20) && decide ((d.length : Int) ≤ 20)) && decide ((d'.length : Int) ≤ 20))]) [4] 22 Try.func8 (by kernel_rfl) rfl rfl rfl fun G => ?_
  refine W.initA (hw := ?_)
  repeat' (first | ((first | apply U_ | (apply Ug_; exact rfl; exact rfl) | (apply Ugq_; exact rfl; exact rfl)); (first | exact QX.B TYok | exact QX.Len TYok); exact rfl) | refine SX.Box TYok (h := ?_) | refine SC ?_ | refine SG ?_ | (refine W.condA (ht := fun hb => ?_) (hf := fun hb => ?_) <;> (try simp at hb) <;> (try (exfalso; omega))))
  all_goals exact Fin.ret ResL.auto
abbrev encQ (r : Rat) : List Cell := [.int .i64 (sgn r.num), .sl ((digs (mag r.num)).map Lf.encI), .int .i64 (sgn r.den), .sl ((digs (mag r.den)).map Lf.encI)]
abbrev slQ (l : List Rat) : PV := .one (.sl (l.map encQ))
instance : Inhabited Rat := ⟨0⟩
attribute [local irreducible] sgn mag gcdZ quoZ remZ fullZ fullE
theorem sameQ_ok (a b : List Rat) (ha : ∀ r ∈ a, okF r) (hB : ∀ r ∈ b, okF r) (hl : a.length ≤ 1000000) (hl' : b.length ≤ 1000000) : ACalls Try.prog 13 [slQ a, slQ b] (.pv (cB (decide (a = b)))) := by
  by_cases hab : a.length = b.length
  case neg =>
    rw [decide_eq_false (fun e => hab (by rw [e]))]
    refine ACalls.of_W (qs := [cB false]) [4] 27 Try.func13 (by kernel_rfl) rfl rfl rfl fun G => ?_
    refine W.initA (hw := ?_)
    repeat' (first | (exfalso; omega) | ((first | apply U_ | apply Lex.u | (apply Lex.g; exact rfl; exact rfl) | (apply Lex.gq; exact rfl; exact rfl)); (first | exact QX.B TYok | exact QX.Len TYok | exact QX.Idx TYok); exact rfl) | refine SC ?_ | (apply W.draw2 (id := 6) [0, 0, 3, 7, 0, 0, 48, 112, 255, 511] [[0], [5], [17, 18], [19], [1], [5], [21, 22], [23], [20, 24], [25]] 10 [(17, 1), (18, 32), (19, 393216), (20, 524288), (21, 2), (22, 32), (23, 6291456), (24, 8388608), (25, 17825792), (26, 33554432)] mixed (by kernel_rfl) rfl rfl) | (refine W.condA (ht := fun hb => ?_) (hf := fun hb => ?_) <;> (try simp at hb) <;> (try (exfalso; omega))))
    all_goals exact Fin.ret ResL.auto
  refine ACalls.of_W (qs := [cB (decide (a = b))]) [4] 27 Try.func13 (by kernel_rfl) rfl rfl rfl fun G => ?_
  refine W.initA (hw := ?_)
  repeat' (first | (exfalso; omega) | ((first | apply U_ | apply Lex.u | (apply Lex.g; exact rfl; exact rfl) | (apply Lex.gq; exact rfl; exact rfl)); (first | exact QX.B TYok | exact QX.Len TYok | exact QX.Idx TYok); exact rfl) | refine SC ?_ | (apply W.draw2 (id := 6) [0, 0, 3, 7, 0, 0, 48, 112, 255, 511] [[0], [5], [17, 18], [19], [1], [5], [21, 22], [23], [20, 24], [25]] 10 [(17, 1), (18, 32), (19, 393216), (20, 524288), (21, 2), (22, 32), (23, 6291456), (24, 8388608), (25, 17825792), (26, 33554432)] mixed (by kernel_rfl) rfl rfl) | (refine W.condA (ht := fun hb => ?_) (hf := fun hb => ?_) <;> (try simp at hb) <;> (try (exfalso; omega))))
  apply W.loopP (σ := Nat) 27 [0, 1] (fun k => k ≤ a.length ∧ a.take k = b.take k) (fun k => [(5, vI k)]) (fun _ => []) (fun k => a.length - k) (0)
  case hp => repeat (first | exact Pick.nil | apply Pick.cons rfl)
  case h0 =>
    refine ⟨by simp, ?_⟩
    exact Le.auto
  case round =>
    rintro k ⟨g1, g2⟩
    apply W.norm (by repeat (first | exact App.nil | apply App.cons))
    by_cases hk : k < a.length
    · have s1 := same_ok (nth a k) (nth b k) (ha _ (nth_mem hk)) (hB _ (nth_mem (by omega)))
      by_cases he : nth a k = nth b k
      · rw [decide_eq_true he] at s1
        repeat' (first | ((first | apply U_ | apply Lex.u | (apply Lex.g; exact rfl; exact rfl) | (apply Lex.gq; exact rfl; exact rfl)); (first | exact QX.B TYok | exact QX.Len TYok | exact QX.Idx TYok | exact QCd (s1)); exact rfl) | refine SC ?_ | (apply W.draw2 (id := 6) [0, 0, 3, 7, 0, 0, 48, 112, 255, 511] [[0], [5], [17, 18], [19], [1], [5], [21, 22], [23], [20, 24], [25]] 10 [(17, 1), (18, 32), (19, 393216), (20, 524288), (21, 2), (22, 32), (23, 6291456), (24, 8388608), (25, 17825792), (26, 33554432)] mixed (by kernel_rfl) rfl rfl) | (refine W.condA (ht := fun hb => ?_) (hf := fun hb => ?_) <;> (try simp at hb) <;> (try (exfalso; omega))))
        all_goals first
          | (refine ⟨k + 1, ⟨by omega, by rw [take_nth hk, take_nth (by omega), g2, he]⟩, ?_, by omega⟩; exact Le.auto)
          | (exfalso; omega)
          | trace_state
      · rw [decide_eq_false he] at s1
        rw [decide_eq_false (fun e => by subst e; exact he rfl)]
        repeat' (first | ((first | apply U_ | apply Lex.u | (apply Lex.g; exact rfl; exact rfl) | (apply Lex.gq; exact rfl; exact rfl)); (first | exact QX.B TYok | exact QX.Len TYok | exact QX.Idx TYok | exact QCd (s1)); exact rfl) | refine SC ?_ | (apply W.draw2 (id := 6) [0, 0, 3, 7, 0, 0, 48, 112, 255, 511] [[0], [5], [17, 18], [19], [1], [5], [21, 22], [23], [20, 24], [25]] 10 [(17, 1), (18, 32), (19, 393216), (20, 524288), (21, 2), (22, 32), (23, 6291456), (24, 8388608), (25, 17825792), (26, 33554432)] mixed (by kernel_rfl) rfl rfl) | (refine W.condA (ht := fun hb => ?_) (hf := fun hb => ?_) <;> (try simp at hb) <;> (try (exfalso; omega))))
        all_goals first
          | exact Fin.ret ResL.auto
          | trace_state
    · obtain rfl : k = a.length := by omega
      rw [List.take_length, hab, List.take_length] at g2
      rw [decide_eq_true g2]
      repeat' (first | ((first | apply U_ | apply Lex.u | (apply Lex.g; exact rfl; exact rfl) | (apply Lex.gq; exact rfl; exact rfl)); (first | exact QX.B TYok | exact QX.Len TYok | exact QX.Idx TYok); exact rfl) | refine SC ?_ | (apply W.draw2 (id := 6) [0, 0, 3, 7, 0, 0, 48, 112, 255, 511] [[0], [5], [17, 18], [19], [1], [5], [21, 22], [23], [20, 24], [25]] 10 [(17, 1), (18, 32), (19, 393216), (20, 524288), (21, 2), (22, 32), (23, 6291456), (24, 8388608), (25, 17825792), (26, 33554432)] mixed (by kernel_rfl) rfl rfl) | (refine W.condA (ht := fun hb => ?_) (hf := fun hb => ?_) <;> (try simp at hb) <;> (try (exfalso; omega))))
      exact Fin.ret ResL.auto
end
end Go.Proofs.Ytndfnihglpconaa
end
section
set_option linter.unusedVariables false
set_option linter.unusedSimpArgs false
set_option maxHeartbeats 8000000
namespace Go.Proofs.Ytndfnihglpconaa
open Lf Go
attribute [local irreducible] PureOp EffOp Ev RG W Then InBlock Lf.Fin nth App InitE Pick EvL EvD EvP EvR ResL Lf.Lex SubR SubBR FinO FinM ResM ResD FinS val pw digs trimL
section
open RankLaw
theorem mul_lt {x y : Int} {m n k : Nat} (hk : m + n = k) (hx : -pw m < x ∧ x < pw m) (hy : -pw n < y ∧ y < pw n) : -pw k < x * y ∧ x * y < pw k := by
  subst hk
  have h1 := pw_pos m
  have h2 := pw_pos n
  have h : (x * y).natAbs < (pw (m + n)).natAbs := by
    rw [pw_add, Int.natAbs_mul, Int.natAbs_mul]
    exact Nat.mul_lt_mul'' (by omega) (by omega)
  have := pw_pos (m + n)
  omega
def bd (r : Rat) (n : Nat) : Prop := (-pw n < r.num ∧ r.num < pw n) ∧ (-pw n < (r.den : Int) ∧ (r.den : Int) < pw n)
theorem bd_ok {r : Rat} {n : Nat} (h : bd r n) (hn : n ≤ 60) : okF r := by
  have := pw_mono hn
  obtain ⟨h1, h2⟩ := h
  exact ⟨okZ.of (by omega), okZ.of (by omega)⟩
theorem bd_mono {r : Rat} {m n : Nat} (h : bd r m) (hn : m ≤ n) : bd r n := by
  have := pw_mono hn
  obtain ⟨h1, h2⟩ := h
  exact ⟨by omega, by omega⟩
theorem bd_div {x y : Int} {n : Nat} (h0 : y ≠ 0) (hx : -pw n < x ∧ x < pw n) (hy : -pw n < y ∧ y < pw n) : bd (Rat.divInt x y) n := by
  obtain ⟨h1, h2⟩ := divInt_le (x := x) h0
  have a := sgn_cases x
  have b := sgn_cases y
  have c := sgn_cases (Rat.divInt x y).num
  have d := sgn_cases ((Rat.divInt x y).den : Int)
  exact ⟨by omega, by omega⟩
theorem add_bd {a b : Rat} {m n k : Nat} (hk : m + n = k) (ha : bd a m) (hB : bd b n) (h60 : k + 1 ≤ 60) : bd (a + b) (k + 1) ∧ addOk a b := by
  have h1 := mul_lt hk ha.1 hB.2
  have h2 := mul_lt (m := n) (n := m) (k := k) (by omega) hB.1 ha.2
  have h3 := mul_lt hk ha.2 hB.2
  have e : pw (k + 1) = 1048576 * pw k := by rw [pw_succ]
  have hm := pw_mono h60
  have hp := pw_pos k
  refine ⟨?_, ⟨⟨okZ.of (by omega), okZ.of (by omega), okZ.of (by omega)⟩, okZ.of (by omega)⟩⟩
  rw [rat_add]
  exact bd_div (mul_ne (den_ne a) (den_ne b)) (by omega) (by omega)
theorem mul_bd {a b : Rat} {m n k : Nat} (hk : m + n = k) (ha : bd a m) (hB : bd b n) (h60 : k ≤ 60) : bd (a * b) k ∧ mulOk a b := by
  have h1 := mul_lt hk ha.1 hB.1
  have h3 := mul_lt hk ha.2 hB.2
  have hm := pw_mono h60
  refine ⟨?_, ⟨okZ.of (by omega), okZ.of (by omega)⟩⟩
  rw [rat_mul]
  exact bd_div (mul_ne (den_ne a) (den_ne b)) h1 h3
theorem neg_bd {b : Rat} {n : Nat} (h : bd b n) : bd (-b) n := by
  obtain ⟨h1, h2⟩ := h
  refine ⟨?_, ?_⟩
  · rw [Rat.neg_num]; omega
  · rw [Rat.neg_den]; exact h2
theorem div_bd {a b : Rat} {m n k : Nat} (hk : m + n = k) (ha : bd a m) (hB : bd b n) (h0 : b.num ≠ 0) (h60 : k ≤ 60) : bd (a / b) k ∧ divOk a b := by
  have h1 := mul_lt hk ha.1 hB.2
  have h3 := mul_lt hk ha.2 hB.1
  have hm := pw_mono h60
  refine ⟨?_, okZ.of (by omega), okZ.of (by omega)⟩
  rw [rat_div a b h0]
  exact bd_div (mul_ne (den_ne a) h0) h1 h3
theorem bd_of {r : Rat} {n : Nat} (h1 : (digs (mag r.num)).length ≤ n) (h2 : (digs (mag r.den)).length ≤ n) : bd r n := ⟨lt40 h1, lt40 h2⟩
theorem pw4 : pw 4 = 1208925819614629174706176 := by decide +kernel
theorem int_bd {n : Int} (h : -1208925819614629174706176 < n ∧ n < 1208925819614629174706176) : bd (n : Rat) 4 := by
  have e := pw4
  have h1 : (n : Rat).num = n := rfl
  have h2 : ((n : Rat).den : Int) = 1 := rfl
  unfold bd
  rw [h1, h2]
  omega
theorem sub_bd {a b : Rat} {m n k : Nat} (hk : m + n = k) (ha : bd a m) (hB : bd b n) (h60 : k + 1 ≤ 60) : bd (a - b) (k + 1) ∧ addOk a (-b) := by
  rw [Rat.sub_eq_add_neg]
  exact add_bd hk ha (neg_bd hB) h60
theorem cmpR_cases (a b : Rat) : (cmpR a b = -1 ∧ a < b) ∨ (cmpR a b = 0 ∧ a = b) ∨ (cmpR a b = 1 ∧ b < a) := by
  unfold cmpR
  rcases cmp_cases (a.num * b.den) (b.num * a.den) with h | h | h
  · exact .inl ⟨h.1, (Rat.lt_iff a b).2 h.2⟩
  · exact .inr (.inl ⟨h.1, Rat.le_antisymm ((Rat.le_iff a b).2 (by omega)) ((Rat.le_iff b a).2 (by omega))⟩)
  · exact .inr (.inr ⟨h.1, (Rat.lt_iff b a).2 h.2⟩)
theorem sgnR_cases (r : Rat) : (sgn r.num = -1 ∧ r < 0) ∨ (sgn r.num = 0 ∧ r = 0) ∨ (sgn r.num = 1 ∧ 0 < r) := by
  have h1 := cmpR_cases r 0
  have c := sgn_cases r.num
  have e : cmpR r 0 = sgn r.num := by
    unfold cmpR
    have k := cmp_cases (r.num * ((0 : Rat).den : Int)) ((0 : Rat).num * r.den)
    rw [show ((0 : Rat).den : Int) = 1 from rfl, show (0 : Rat).num = 0 from rfl, Int.mul_one, Int.zero_mul] at k ⊢
    omega
  rw [e] at h1
  exact h1
theorem rightC_yes {l : List Cl} (h : rightC l = true) : (∀ c ∈ l, okC c) ∧ amtOk l ∧ l.length ≤ 2000 := by
  unfold rightC at h
  rw [Bool.and_eq_true, List.all_eq_true, decide_eq_true_iff] at h
  refine ⟨fun c hc => ?_, fun c hc => ?_, by omega⟩
  · have := (okB_iff _ _).1 (h.1 c hc)
    exact ⟨this.2.2.1.1, this.2.2.1.2, this.2.2.2.1.1⟩
  · have := (okB_iff _ _).1 (h.1 c hc)
    exact this.2.2.2.1
theorem sums_rng {l : List Cl} (h : amtOk l) (hl : l.length ≤ 2000) (k : Int) : (0 ≤ less l k ∧ less l k ≤ 2000000000000000000) ∧ (0 ≤ same l k ∧ same l k ≤ 2000000000000000000) ∧ (0 ≤ total l ∧ total l ≤ 2000000000000000000) := by
  have := take_sums h hl l.length k
  rwa [List.take_length] at this
theorem rest_bd {r : Rat} (hr : bd r 20) {l : List Cl} (h : amtOk l) (hl : l.length ≤ 2000) (k : Int) : bd (rest r l k) 25 := by
  have := sums_rng h hl k
  unfold rest
  split
  · exact bd_mono (int_bd (n := 0) (by omega)) (by omega)
  · exact (sub_bd (k := 24) (by omega) hr (int_bd (by omega)) (by omega)).1
def payC (r : Rat) (l : List Cl) (c : Cl) : Rat := pay r (less l c.rank) (same l c.rank) c.amt
def encO : Option Rat → List Cell
  | none => [.int .i64 0, .slnil, .int .i64 0, .slnil]
  | some r => encQ r
theorem encO_len (z : Option Rat) : (encO z).length = 4 := by cases z <;> rfl
def Paid (r : Rat) (l : List Cl) (k : Int) (j : Nat) (L : List (Option Rat)) : Prop :=
  L.length = l.length ∧ ∀ i, i < l.length → nth L i = if (nth l i).rank < k ∨ ((nth l i).rank = k ∧ i < j) then some (payC r l (nth l i)) else none
theorem Paid.zero {l : List Cl} (r : Rat) (h : ∀ c ∈ l, okC c) : Paid r l 0 0 (List.replicate l.length none) := by
  refine ⟨by simp, fun i hi => ?_⟩
  have := (h _ (nth_mem hi)).1
  rw [if_neg (by omega), nth_eq (by simpa using hi), List.getElem_replicate]
theorem Paid.next {r : Rat} {l : List Cl} {k : Int} {L : List (Option Rat)} (h : Paid r l k l.length L) : Paid r l (k + 1) 0 L := by
  refine ⟨h.1, fun i hi => ?_⟩
  rw [h.2 i hi]
  by_cases h1 : (nth l i).rank < k + 1
  · rw [if_pos (by omega), if_pos (.inl h1)]
  · rw [if_neg (by omega), if_neg (by omega)]
theorem Paid.skip {r : Rat} {l : List Cl} {k : Int} {j : Nat} {L : List (Option Rat)} (h : Paid r l k j L) (hj : j < l.length) (hne : (nth l j).rank ≠ k) : Paid r l k (j + 1) L := by
  refine ⟨h.1, fun i hi => ?_⟩
  rw [h.2 i hi]
  by_cases e : i = j
  · subst e
    by_cases h1 : (nth l i).rank < k
    · rw [if_pos (.inl h1), if_pos (.inl h1)]
    · rw [if_neg (by omega), if_neg (by omega)]
  · by_cases h1 : (nth l i).rank < k ∨ ((nth l i).rank = k ∧ i < j)
    · rw [if_pos h1, if_pos (by omega)]
    · rw [if_neg h1, if_neg (by omega)]
theorem nth_set {α : Type} [Inhabited α] {l : List α} {i j : Nat} {x : α} (hi : i < l.length) : nth (l.set j x) i = if i = j then x else nth l i := by
  rw [nth_eq (by simpa using hi), List.getElem_set]
  by_cases e : i = j
  · rw [if_pos e, if_pos e.symm]
  · rw [if_neg e, if_neg (Ne.symm e), nth_eq hi]
theorem Paid.set {r : Rat} {l : List Cl} {k : Int} {j : Nat} {L : List (Option Rat)} (h : Paid r l k j L) (hj : j < l.length) (he : (nth l j).rank = k) {v : Rat} (hv : v = payC r l (nth l j)) : Paid r l k (j + 1) (L.set j (some v)) := by
  refine ⟨by rw [List.length_set]; exact h.1, fun i hi => ?_⟩
  rw [nth_set (by rw [h.1]; exact hi)]
  by_cases e : i = j
  · subst e
    rw [if_pos rfl, if_pos (.inr ⟨he, by omega⟩), hv]
  · rw [if_neg e, h.2 i hi]
    by_cases h1 : (nth l i).rank < k ∨ ((nth l i).rank = k ∧ i < j)
    · rw [if_pos h1, if_pos (by omega)]
    · rw [if_neg h1, if_neg (by omega)]
theorem Paid.set2 {r : Rat} {l : List Cl} {k : Int} {j : Nat} {L : List (Option Rat)} (h : Paid r l k j L) (hj : j < l.length) (he : (nth l j).rank = k) {u : Option Rat} {v : Rat} (hv : v = payC r l (nth l j)) : Paid r l k (j + 1) ((L.set j u).set j (some v)) := by
  rw [List.set_set]
  exact h.set hj he hv
theorem list_eq {α : Type} [Inhabited α] {a b : List α} (hl : a.length = b.length) (h : ∀ i, i < a.length → nth a i = nth b i) : a = b := by
  refine List.ext_getElem hl fun i h1 h2 => ?_
  rw [← nth_eq h1, ← nth_eq h2]
  exact h i h1
theorem payL_eq (r : Rat) (l : List Cl) : payL r l = l.map (payC r l) := rfl
theorem Paid.done {r : Rat} {l : List Cl} {L : List (Option Rat)} (hok : ∀ c ∈ l, okC c) (h : Paid r l 10 0 L) : L = (payL r l).map some := by
  refine list_eq (by rw [h.1]; simp [payL]) fun i hi => ?_
  have hi' : i < l.length := by rw [← h.1]; exact hi
  rw [h.2 i hi']
  have := (hok _ (nth_mem hi')).2.1
  rw [if_pos (by omega), nth_eq hi', nth_eq (show i < ((payL r l).map some).length by simpa [payL] using hi')]
  simp only [payL_eq, List.getElem_map]
theorem encO_some (L : List Rat) : (L.map some).map encO = L.map encQ := by rw [List.map_map]; rfl
end
end Go.Proofs.Ytndfnihglpconaa
end
section
set_option linter.unusedVariables false
namespace Lf
open Go
section
variable {P : Program} {G : Ghost} {n : Nat}
theorem StoreV.mkm {α : Type} [I : Inhabited α] {T : Nat → Option TI} (hT : TOK P T) {E : Env} {B B0 : Blk} {t d i : Nat} {x y : Operand} {ti : TI} {l : List α} {f : α → List Cell} (v : α) {q : PV} {ty : TypeId} {pos : String} {after : Array Edge} {gd : Option (Nat × Bool)} (hx : Ev (St.mk n E []) True x (.addr d i 0)) (hy : Ev (St.mk n E []) True y (.pv q)) (ht : T t = some ti) (hr : B0.rows = l.map f)
    (hi : i < l.length) (hq : q.cells = f v) (hf : ∀ z, (f z).length = ti.sz) (hB : ({ B0 with rows := (l.set i v).map f } : Blk) = B) : StoreV P G n E ⟨none, .store t x y, ty, pos, after, gd⟩ d B B0 := by
  have e : splice (f l[i]) 0 q.cells = f v := by
    rw [hq]; unfold splice; rw [hf, List.drop_eq_nil_of_le (by rw [hf]; omega)]; simp
  refine StoreV.mk hT hx hy ht (r := f l[i]) (by rw [hr]; simp [List.getElem?_eq_getElem hi]) (by rw [hq, hf]) (Nat.ble_eq_true_of_le (by rw [hf]; omega)) ?_
  rw [← hB, hr, e, ← List.map_set]
end
end Lf
end
section
set_option linter.unusedVariables false
set_option linter.unusedSimpArgs false
namespace Lf
open Go Go.RowKit
section
variable {P : Program} {G : Ghost} {A : St} {Φ : Frz} {β : Own} {a : Act} {w w' : World}
structure TCalls (P : Program) (f : FuncId) (args : List PV) (E sz : Nat) (rows : List (List Cell)) (k : IntKind) (m : Int) : Prop where
  fn : FnOK P f
  calls : ∀ (Φ : Frz) (w : World) (vs : Array Value), Fits Φ w → ArgsRel Φ vs args → Calls P f vs w (fun e w' => ∃ v Φ', e = .returned (.tuple #[v, .int k m]) ∧ ((v = .slice none 0 0 ∧ rows = []) ∨ ∃ b cap, v = .slice (some ⟨b, 0, none⟩) rows.length cap ∧ w.heap.size ≤ b ∧ BlkRel Φ' w' b cap ⟨E, sz, rows⟩ ∧ Φ' b = none) ∧
    Φ.le Φ' ∧ (∀ b, b < w.heap.size → Φ' b = Φ b) ∧ Fits Φ' w' ∧ Below w.heap.size w w')
/-- the end of such a function -/
def FinT (t t2 E sz : Nat) (rows : List (List Cell)) (k : IntKind) (m : Int) (e : Exit) (A : St) : Prop := (e = .normal ∨ e = .ret) ∧ (∃ n, lk A.env t = some (True, .slc n) ∧ lk A.blks n = some ⟨E, sz, rows⟩) ∧ lk A.env t2 = some (True, .pv (.one (.int k m)))
theorem FinT.ret {t t2 E sz n : Nat} {rows rows' : List (List Cell)} {k : IntKind} {m : Int} (h : lk A.env t = some (True, .slc n)) (hl : lk A.blks n = some ⟨E, sz, rows'⟩) (hr : rows' = rows) (h2 : lk A.env t2 = some (True, .pv (.one (.int k m)))) : FinT t t2 E sz rows k m .ret A := ⟨.inr rfl, ⟨n, h, hr ▸ hl⟩, h2⟩
theorem TCalls.of_W {f : FuncId} {fn : Func} {c : Code} {args : List PV} {E sz : Nat} {rows : List (List Cell)} {k : IntKind} {m : Int} (t t2 n : Nat) (hf : P.funcs[f]? = some fn) (hn : (fn.name == "runtime.NumGoroutine") = false) (hb : fn.body = some c)
    (hr : fn.results = #[.tmp t, .tmp t2]) (hnt : fn.ntmps = n) (hE : Nat.ble mapTag E = false) (h : ∀ G, W P G c (FinT t t2 E sz rows k m) (St.init n args)) : TCalls P f args E sz rows k m where
  fn := ⟨fn, hf, hn, by rw [hb]; rfl⟩
  calls := fun Φ w vs hfit harg => by
    subst hnt
    refine calls_of_wp hf hb (wp_mono (h _ Φ (fun _ => none) _ w (sat_init (f := f) rfl hfit harg)) fun e a' w' ⟨A', Φ', β', ⟨he, ⟨x, h1, h2⟩, h5⟩, hs, hle⟩ => ?_)
    have hv : a'.defers = [] ∧ ∃ v, (results fn a'.tmps).run P w' = .ok v w' ∧ (∃ v1 Φ'', Ending.returned v = .returned (.tuple #[v1, .int k m]) ∧ ((v1 = .slice none 0 0 ∧ rows = []) ∨ ∃ b cap, v1 = .slice (some ⟨b, 0, none⟩) rows.length cap ∧ w.heap.size ≤ b ∧ BlkRel Φ'' w' b cap ⟨E, sz, rows⟩ ∧ Φ'' b = none) ∧
        Φ.le Φ'' ∧ (∀ b, b < w.heap.size → Φ'' b = Φ b) ∧ Fits Φ'' w' ∧ Below w.heap.size w w') := by
      have h3 : Rel Φ' (a'.tmps.getD t2 undef) (.int k m) := (hs.env t2 True _ h5).1 trivial
      have h4 : a'.tmps.getD t2 undef = .int k m := by
        cases hv : a'.tmps.getD t2 undef <;> rw [hv] at h3 <;> cases h3
        rfl
      refine ⟨hs.dfr, _, run_results (ts := [t, t2]) (by rw [hr]; rfl) _ _, a'.tmps.getD t undef, Φ', ?_, ?_, hle, fun b hb => hs.old b hb, hs.fits, ⟨hs.kept.os, hs.kept.tape, hs.kept.output, hs.kept.size, hs.kept.block⟩⟩
      · rw [show resV a'.tmps [t, t2] = .tuple #[a'.tmps.getD t undef, a'.tmps.getD t2 undef] from rfl, h4]
      · obtain ⟨B, k1, k2, k3⟩ := (hs.env t True _ h1).1 trivial
        rw [h2] at k1
        obtain rfl := Option.some.inj k1
        rcases k3 with ⟨k3, k4⟩ | ⟨b, cap, k3, k4⟩
        · exact .inl ⟨k4, hs.vir x _ h2 k3⟩
        · obtain ⟨g1, g2, g3⟩ := hs.blk x _ b cap h2 k3
          exact .inr ⟨b, cap, k4, Nat.le_of_not_lt g2, g1, g3⟩
    rcases he with rfl | rfl
    · exact hv
    · exact hv
/-- what such a callee made, as data -/
theorem TCalls.data {f : FuncId} {args : List PV} {E sz : Nat} {rows : List (List Cell)} {k : IntKind} {m : Int} (h : TCalls P f args E sz rows k m) (hE : Nat.ble mapTag E = false) : ACalls P f args (.tup [.one (.sl rows), .one (.int k m)]) where
  fn := h.fn
  calls := fun Φ w vs hfit harg => by
    refine Calls.mono (h.calls Φ w vs hfit harg) ?_
    rintro e w' ⟨v, Φ', rfl, hv, hle, heq, hf, hb⟩
    have mk : ∀ {Φ1 : Frz} {v : Value}, Rel Φ1 v (.sl rows) → AVRel Φ1 (fun _ => none) [] (.tuple #[v, .int k m]) (.tup [.one (.sl rows), .one (.int k m)]) := fun {Φ1 v} hr => by
      refine ⟨_, rfl, rfl, fun j p hj => ?_⟩
      cases j with
      | zero => simp at hj; subst hj; exact ⟨v, rfl, hr⟩
      | succ j =>
        cases j with
        | zero => simp at hj; subst hj; exact ⟨.int k m, rfl, Rel.int _ _⟩
        | succ j => simp at hj
    rcases hv with ⟨rfl, rfl⟩ | ⟨b, cap, rfl, hbs, hbl, hΦ⟩
    · exact ⟨_, Φ', rfl, mk Rel.sl0, hle, heq, hf, hb⟩
    · obtain ⟨cur, g1, g2, g3, g4, g5, g6⟩ := hbl.cells hE
      have hle2 : Φ'.le (fun c => if c = b then some cur else Φ' c) := fun c x hc => by
        by_cases e : c = b
        · subst e; rw [hΦ] at hc; cases hc
        · simp [e, hc]
      refine ⟨_, fun c => if c = b then some cur else Φ' c, rfl, mk ?_, Frz.le_trans hle hle2, fun c hc => ?_, fun c x hc => ?_, hb⟩
      · refine .sl b 0 rows.length cap sz rows (fun i j => (cur[i * sz + j]?).getD undef) rfl g2 g5 (fun i j r c hi hj => ?_) (fun i j r c hi hj => ?_)
        · obtain ⟨v, q1, q2⟩ := g6 i j r c hi hj
          simp [q1]
        · obtain ⟨v, q1, q2⟩ := g6 i j r c hi hj
          rw [q1]; exact q2.mono hle2
      · show (if c = b then some cur else Φ' c) = Φ c
        rw [if_neg (by omega)]; exact heq c hc
      · simp only at hc
        split at hc
        · rename_i e; subst e; cases hc; exact ⟨_, _, g1⟩
        · exact hf c x hc
end
section
variable {P : Program} {G : Ghost} {ops : Array Oper} {rest : List Oper} {Q : St → Prop} {n0 : Nat} {env : List (Nat × (Prop × AV))} {bl : List (Nat × Blk)} {p : Prop} {dst : Option Nat} {ty : TypeId} {pos : String} {after : Array Edge} {gd : Option (Nat × Bool)}
end
end Lf
end
