/-
  EvalUnits: the row: what came in is read, the contract of the function gives true, and what came in stands.
-/
import Derived.Test.YtjedkgogjehigaaGreatUS13
import Derived.Test.YtjedkgogjehigaaGreatUS07
import Derived.Test.YtjedkgogjehigaaGreatUS12
import Derived.Test.YtjedkgogjehigaaGreatUS09
section
set_option linter.unusedVariables false
set_option linter.unusedSimpArgs false
set_option maxHeartbeats 8000000
set_option linter.unusedSectionVars false
namespace Go.Proofs.YtjedkgogjehigaaGreat
open Lf Go
attribute [local irreducible] PureOp EffOp Ev RG W Then InBlock Lf.Fin nth App InitE Pick SubE EvL EvD EvP EvR ResL Lf.Lex SubR SubBR RA RAll EvC FinO FinM ResM ResD FinS val pw digs trimL
section
variable {lets : List Let} {en : EnvQ} {v : EnvV}
/-- what Value gives, and when it is no ErrArg -/
theorem value_res (hl : LIn lets) {e : Exp} (he : OkE e) (hv : v.Len) : ∃ R : Rs, ACalls Tryz.prog 7 [xV lets, aE e, vV v] (resP R) ∧ R.fit ∧ (R.e ≠ 1 → ∃ en : EnvQ, en.Ok ∧ LetsOk lets ∧ v = en.V ∧ statF e = true ∧ R = valF lets en lets.length e) := by
  by_cases ha : askF lets e v = false
  · exact ⟨.err 1, value_arg hl he hv ha, (by decide : (1 : Int) ≠ 0), fun h => absurd rfl h⟩
  · have ha' := ha
    rw [Bool.not_eq_false, askF_iff] at ha'
    obtain ⟨⟨a1, a2⟩, a3, a4⟩ := ha'
    obtain ⟨en, oen, rfl⟩ := env_q hv a4
    have hL := lets_ok hl a2 a3
    exact ⟨_, value_yes hL oen a1 he, valF_fit hL oen a1, fun _ => ⟨en, oen, hL, rfl, a1, rfl⟩⟩
theorem Rs.split (R : Rs) : ∃ (x1 : Int) (x2 : List Int) (x3 : Int) (x4 : List Int) (c : Int), resP R = .tup [.agg [.int .i64 x1, .sl (x2.map Lf.encI), .int .i64 x3, .sl (x4.map Lf.encI)], cI c] ∧ R.v = .agg [.int .i64 x1, .sl (x2.map Lf.encI), .int .i64 x3, .sl (x4.map Lf.encI)] ∧ R.e = c := by
  obtain ⟨x1, x2, x3, x4, h⟩ := R.v_agg
  exact ⟨x1, x2, x3, x4, R.e, by unfold resP; rw [h], h, rfl⟩
attribute [local irreducible] sgn mag gcdZ quoZ remZ fullZ fullE
end
end Go.Proofs.YtjedkgogjehigaaGreat
end
section
set_option linter.unusedVariables false
set_option linter.unusedSimpArgs false
set_option maxHeartbeats 8000000
set_option linter.unusedSectionVars false
namespace Go.Proofs.YtjedkgogjehigaaGreat
open Lf Go
attribute [local irreducible] PureOp EffOp Ev RG W Then InBlock Lf.Fin nth App InitE Pick SubE EvL EvD EvP EvR ResL Lf.Lex SubR SubBR RA RAll EvC FinO FinM ResM ResD FinS val pw digs trimL
section
variable {lets : List Let} {v : EnvV}
theorem same_any1 (p : Rat) (op : okF p) : ∃ b, ACalls Tryz.prog 10 [zF p, zF0] (.pv (cB b)) := by
  have hp := num_len op.1
  have hp2 := num_len op.2
  have s1 := sameBig_ok (sgn p.num) 0 (digs (mag p.num)) [] (by omega) (by simp)
  have s2 := sameBig_ok (sgn p.den) 0 (digs (mag p.den)) [] (by omega) (by simp)
  generalize (decide (sgn p.num = (0 : Int)) && decide (digs (mag p.num) = [])) = b1 at *
  generalize (decide (sgn p.den = (0 : Int)) && decide (digs (mag p.den) = [])) = b2 at *
  refine ⟨b1 && b2, ?_⟩
  refine ACalls.of_W (qs := [cB (b1 && b2)]) [4] 17 Tryz.func10 (by kernel_rfl) rfl rfl rfl fun G => ?_
  refine W.initA (hw := ?_)
  repeat' (first | ((first | apply U_ | (apply Ug_; exact rfl; exact rfl) | (apply Ugq_; exact rfl; exact rfl)); (first | exact QX.B TYok | exact QCd (s1) | exact QCd (s2)); exact rfl) | refine SX.Box TYok (h := ?_) | refine SC ?_ | (apply RG.gT; exact rfl; exact rfl; (first | assumption | decide)) | (apply RG.gF; exact rfl; exact rfl; (first | assumption | decide | (rw [ne_eq, Bool.not_eq_true]; assumption) | (rw [ne_eq, Bool.not_eq_false]; assumption)); exact rfl) | (refine W.condA (ht := fun hb => ?_) (hf := fun hb => ?_) <;> (try simp at hb) <;> (try (exfalso; omega))))
  all_goals exact Fin.ret ResL.auto
theorem same_any2 (p : Rat) (op : okF p) : ∃ b, ACalls Tryz.prog 10 [zF0, zF p] (.pv (cB b)) := by
  have hp := num_len op.1
  have hp2 := num_len op.2
  have s1 := sameBig_ok 0 (sgn p.num) [] (digs (mag p.num)) (by simp) (by omega)
  have s2 := sameBig_ok 0 (sgn p.den) [] (digs (mag p.den)) (by simp) (by omega)
  generalize (decide ((0 : Int) = sgn p.num) && decide ([] = digs (mag p.num))) = b1 at *
  generalize (decide ((0 : Int) = sgn p.den) && decide ([] = digs (mag p.den))) = b2 at *
  refine ⟨b1 && b2, ?_⟩
  refine ACalls.of_W (qs := [cB (b1 && b2)]) [4] 17 Tryz.func10 (by kernel_rfl) rfl rfl rfl fun G => ?_
  refine W.initA (hw := ?_)
  repeat' (first | ((first | apply U_ | (apply Ug_; exact rfl; exact rfl) | (apply Ugq_; exact rfl; exact rfl)); (first | exact QX.B TYok | exact QCd (s1) | exact QCd (s2)); exact rfl) | refine SX.Box TYok (h := ?_) | refine SC ?_ | (apply RG.gT; exact rfl; exact rfl; (first | assumption | decide)) | (apply RG.gF; exact rfl; exact rfl; (first | assumption | decide | (rw [ne_eq, Bool.not_eq_true]; assumption) | (rw [ne_eq, Bool.not_eq_false]; assumption)); exact rfl) | (refine W.condA (ht := fun hb => ?_) (hf := fun hb => ?_) <;> (try simp at hb) <;> (try (exfalso; omega))))
  all_goals exact Fin.ret ResL.auto
theorem sameRs_any (R R' : Rs) (h : R.fit) (h' : R'.fit) : ∃ b, ACalls Tryz.prog 10 [R.v, R'.v] (.pv (cB b)) ∧ (R = R' → b = true) := by
  cases R with
  | ok p => cases R' with
    | ok q => exact ⟨_, same_ok p q h h', fun e => by injection e with e; exact decide_eq_true e⟩
    | err y => obtain ⟨b, hb⟩ := same_any1 p h; exact ⟨b, hb, fun e => by cases e⟩
  | err x => cases R' with
    | ok q => obtain ⟨b, hb⟩ := same_any2 q h'; exact ⟨b, hb, fun e => by cases e⟩
    | err y => exact ⟨true, same0_ok, fun _ => rfl⟩
attribute [local irreducible] sgn mag gcdZ quoZ remZ fullZ fullE
theorem units_ret {e : Exp} {f1 : Bool} {u x : Int} {pc : Cell} {R : Rs} (h1 : ACalls Tryz.prog 6 [xV lets, aE e, vV v] (.pv (cB f1))) (o : ACalls Tryz.prog 11 [xV lets, aE e] (.tup [cI u, .one pc, cI x]))
    (v1 : ACalls Tryz.prog 7 [xV lets, aE e, vV v] (resP R)) (hr : x ≠ 0 ∨ R.e = 1) : ACalls Tryz.prog 4 [slL lets, aE e, vV v] (.pv (cB true)) := by
  have h0 := small_ok
  have he := env_ok v
  obtain ⟨x1, x2, x3, x4, g, q1, _, q2⟩ := R.split
  rw [q1] at v1
  rw [q2] at hr
  clear q1 q2
  obtain ⟨op, k, u', s, l⟩ := e
  obtain ⟨N, V, I, R⟩ := v
  have hbad : x = 0 ∧ ¬ g = 1 → False := fun q => by omega
  refine ACalls.of_W (qs := [cB true]) [6] 75 Tryz.func4 (by kernel_rfl) rfl rfl rfl fun G => ?_
  refine W.initA (hw := ?_)
  repeat' (first | ((first | apply U_ | (apply Ug_; exact rfl; exact rfl) | (apply Ugq_; exact rfl; exact rfl) | apply Lex.u | (apply Lex.g; exact rfl; exact rfl) | (apply Lex.gq; exact rfl; exact rfl)); (first | exact QX.B TYok | exact QX.Ext TYok | exact QX.Build TYok | exact QCd (h0) | exact QCd (h1) | exact QCd (he) | exact QCd (o) | exact QCd (v1)); exact rfl) | refine SX.Alloc TYok (h := ?_) | refine SX.Store TYok (h := ?_) | refine SX.Box TYok (h := ?_) | refine SC ?_ | (apply S_isnil TYok; exact rfl; exact rfl; exact rfl; exact Ev.auto; intro bn hnil) | (apply RG.gT; exact rfl; exact rfl; (first | assumption | decide)) | (apply RG.gF; exact rfl; exact rfl; (first | assumption | decide | (rw [ne_eq, Bool.not_eq_true]; assumption) | (rw [ne_eq, Bool.not_eq_false]; assumption)); exact rfl) | apply LexS.nil | (apply LexS.f; exact rfl; (first | (apply FreshV.alloc TYok; exact rfl; exact rfl; exact rfl; exact rfl) | (apply FreshV.lit TYok; (repeat (first | exact EvR.nil | apply EvR.cons Ev.auto)); exact rfl; exact rfl; exact rfl; exact rfl; exact rfl; exact rfl; exact rfl; exact rfl; exact rfl) | (apply FreshV.box; exact Ev.auto; exact rfl; exact rfl; exact rfl)); exact rfl; exact rfl; exact rfl) | (apply LexS.s; exact rfl; exact rfl; (apply StoreV.mk TYok; exact Ev.auto; exact Ev.auto; exact rfl; exact rfl; exact rfl; exact rfl; exact rfl)) | ((first | apply LexS.u | (apply LexS.g; exact rfl; exact rfl) | (apply LexS.gq; exact rfl; exact rfl)); (repeat (first | (apply NB.cons; exact rfl) | exact NB.nil rfl)); (first | exact QX.B TYok | exact QX.Ext TYok | exact QX.Build TYok | exact QCd (h0) | exact QCd (h1) | exact QCd (he) | exact QCd (o) | exact QCd (v1)); exact rfl; exact rfl; exact rfl) | (apply W.draw2 (id := 9) [0, 0, 3, 0, 15, 31] [[0], [4], [46, 47], [5], [48, 49], [50]] 6 [(46, 1), (47, 16), (48, 211106232532992), (49, 32), (50, 844424930131968), (14, 1125899906842624)] mixed (by kernel_rfl) rfl rfl) | (apply W.draw2 (id := 12) [0, 1, 3, 7, 15, 31, 63, 127, 255, 511, 511, 2047, 4095, 8191, 16383, 16383, 65535, 131071, 262143, 524287] [[7], [56], [13, 57], [58, 57], [59, 57], [9, 60], [61, 60], [60, 62, 57], [63, 57], [12, 64], [64], [65, 66, 64], [64, 67, 57], [68, 57], [12, 69], [69], [70, 71, 69], [69, 72, 57], [57, 73], [74]] 20 [(56, 128), (57, 72057594037927936), (58, 144115188075864064), (59, 432345564227567616), (60, 720575940379279360), (61, 1152921504606847488), (62, 3458764513820540928), (63, 5908722711110090752), (64, 9367487224930631680), (65, 18446744073709555712), (66, 18446744073709551616), (67, 129127208515966861312), (68, 166164811851461820416), (69, 295292020367428681728), (70, 590295810358705655808), (71, 590295810358705651712), (72, 4132070672510939561984), (73, 5312806408416426721280), (74, 9444877080927366283264), (6, 18889465931478580854784)] mixed (by kernel_rfl) rfl rfl) | (refine W.drawS (id := 6) [0, 0, 0, 4, 15, 31, 63, 63, 0, 383, 1023] [[8], [4], [5], [34], [32, 33, 35], [36], [31], [31], [], [12, 37], [38]] [(9, (12, ?_)), (8, (12, ?_))] [(9, 12), (8, 12)] mixed (by kernel_rfl) rfl ?_; rotate_left 2) | (refine W.condA (ht := fun hb => ?_) (hf := fun hb => ?_) <;> (try simp at hb) <;> (try (exfalso; first | exact hbad hb | omega))))
  all_goals first
    | exact Fin.ret ResL.auto
    | (exfalso; omega)
    | trace_state
theorem units_walk {e e2 : Exp} {f1 bk b0 b1 : Bool} {u x : Int} {pc : Cell} {R : Rs} (h1 : ACalls Tryz.prog 6 [xV lets, aE e, vV v] (.pv (cB f1))) (o : ACalls Tryz.prog 11 [xV lets, aE e] (.tup [cI u, .one pc, cI x]))
    (v1 : ACalls Tryz.prog 7 [xV lets, aE e, vV v] (resP R)) (rp : ACalls Tryz.prog 13 [slL lets, aE e] (.pv (aE e2))) (kn : ACalls Tryz.prog 12 [aE e2, vV v] (.pv (cB bk)))
    (o0 : ACalls Tryz.prog 14 [cI 0, cI 1] (.pv (fB 0 [] 1 [1]))) (o1 : ACalls Tryz.prog 14 [cI 1, cI 1] (.pv (fB 1 [1] 1 [1]))) (s0 : ACalls Tryz.prog 10 [R.v, fB 0 [] 1 [1]] (.pv (cB b0))) (s1 : ACalls Tryz.prog 10 [R.v, fB 1 [1] 1 [1]] (.pv (cB b1)))
    (hz : bk = true → R.e ≠ 14) (hw : R.e ≠ 0 ∨ u ≠ 4 ∨ b0 = true ∨ b1 = true) : ACalls Tryz.prog 4 [slL lets, aE e, vV v] (.pv (cB true)) := by
  have h0 := small_ok
  have he := env_ok v
  obtain ⟨x1, x2, x3, x4, g, q1, q3, q2⟩ := R.split
  rw [q1] at v1
  rw [q2] at hz hw
  rw [q3] at s0 s1
  clear q1 q2 q3
  have sp : ∀ e : Exp, ∃ (a b c : Int) (s : Str) (l : List (List Cell)), encX e = [.int .i64 a, .int .i64 b, .int .i64 c, .str s, .sl l] := fun e => ⟨_, _, _, _, _, rfl⟩
  obtain ⟨_, _, _, _, _, q⟩ := sp e
  rw [show aE e = .agg (encX e) from rfl, q] at h1 o v1 rp ⊢
  clear q
  obtain ⟨_, _, _, _, _, q⟩ := sp e2
  rw [show aE e2 = .agg (encX e2) from rfl, q] at rp kn
  clear q sp
  have hbad : bk = true ∧ g = 14 → False := fun q => hz q.1 q.2
  obtain ⟨N, V, I, R⟩ := v
  refine ACalls.of_W (qs := [cB true]) [6] 75 Tryz.func4 (by kernel_rfl) rfl rfl rfl fun G => ?_
  refine W.initA (hw := ?_)
  repeat' (first | ((first | apply U_ | (apply Ug_; exact rfl; exact rfl) | (apply Ugq_; exact rfl; exact rfl) | apply Lex.u | (apply Lex.g; exact rfl; exact rfl) | (apply Lex.gq; exact rfl; exact rfl)); (first | exact QX.B TYok | exact QX.Ext TYok | exact QX.Build TYok | exact QCd (h0) | exact QCd (h1) | exact QCd (he) | exact QCd (o) | exact QCd (v1) | exact QCd (rp) | exact QCd (kn) | exact QCd (o0) | exact QCd (o1) | exact QCd (s0) | exact QCd (s1)); exact rfl) | refine SX.Alloc TYok (h := ?_) | refine SX.Store TYok (h := ?_) | refine SX.Box TYok (h := ?_) | refine SC ?_ | (apply S_isnil TYok; exact rfl; exact rfl; exact rfl; exact Ev.auto; intro bn hnil) | (apply RG.gT; exact rfl; exact rfl; (first | assumption | decide)) | (apply RG.gF; exact rfl; exact rfl; (first | assumption | decide | (rw [ne_eq, Bool.not_eq_true]; assumption) | (rw [ne_eq, Bool.not_eq_false]; assumption)); exact rfl) | apply LexS.nil | (apply LexS.f; exact rfl; (first | (apply FreshV.alloc TYok; exact rfl; exact rfl; exact rfl; exact rfl) | (apply FreshV.lit TYok; (repeat (first | exact EvR.nil | apply EvR.cons Ev.auto)); exact rfl; exact rfl; exact rfl; exact rfl; exact rfl; exact rfl; exact rfl; exact rfl; exact rfl) | (apply FreshV.box; exact Ev.auto; exact rfl; exact rfl; exact rfl)); exact rfl; exact rfl; exact rfl) | (apply LexS.s; exact rfl; exact rfl; (apply StoreV.mk TYok; exact Ev.auto; exact Ev.auto; exact rfl; exact rfl; exact rfl; exact rfl; exact rfl)) | ((first | apply LexS.u | (apply LexS.g; exact rfl; exact rfl) | (apply LexS.gq; exact rfl; exact rfl)); (repeat (first | (apply NB.cons; exact rfl) | exact NB.nil rfl)); (first | exact QX.B TYok | exact QX.Ext TYok | exact QX.Build TYok | exact QCd (h0) | exact QCd (h1) | exact QCd (he) | exact QCd (o) | exact QCd (v1) | exact QCd (rp) | exact QCd (kn) | exact QCd (o0) | exact QCd (o1) | exact QCd (s0) | exact QCd (s1)); exact rfl; exact rfl; exact rfl) | (apply W.draw2 (id := 9) [0, 0, 3, 0, 15, 31] [[0], [4], [46, 47], [5], [48, 49], [50]] 6 [(46, 1), (47, 16), (48, 211106232532992), (49, 32), (50, 844424930131968), (14, 1125899906842624)] mixed (by kernel_rfl) rfl rfl) | (apply W.draw2 (id := 12) [0, 1, 3, 7, 15, 31, 63, 127, 255, 511, 511, 2047, 4095, 8191, 16383, 16383, 65535, 131071, 262143, 524287] [[7], [56], [13, 57], [58, 57], [59, 57], [9, 60], [61, 60], [60, 62, 57], [63, 57], [12, 64], [64], [65, 66, 64], [64, 67, 57], [68, 57], [12, 69], [69], [70, 71, 69], [69, 72, 57], [57, 73], [74]] 20 [(56, 128), (57, 72057594037927936), (58, 144115188075864064), (59, 432345564227567616), (60, 720575940379279360), (61, 1152921504606847488), (62, 3458764513820540928), (63, 5908722711110090752), (64, 9367487224930631680), (65, 18446744073709555712), (66, 18446744073709551616), (67, 129127208515966861312), (68, 166164811851461820416), (69, 295292020367428681728), (70, 590295810358705655808), (71, 590295810358705651712), (72, 4132070672510939561984), (73, 5312806408416426721280), (74, 9444877080927366283264), (6, 18889465931478580854784)] mixed (by kernel_rfl) rfl rfl) | (refine W.drawS (id := 6) [0, 0, 0, 4, 15, 31, 63, 63, 0, 383, 1023] [[8], [4], [5], [34], [32, 33, 35], [36], [31], [31], [], [12, 37], [38]] [(9, (12, ?_)), (8, (12, ?_))] [(9, 12), (8, 12)] mixed (by kernel_rfl) rfl ?_; rotate_left 2) | (refine W.condA (ht := fun hb => ?_) (hf := fun hb => ?_) <;> (try simp at hb) <;> (try (exfalso; first | exact hbad hb | omega))))
  all_goals first
    | exact Fin.ret ResL.auto
    | exact Fin.retB rfl (by rcases hw with h | h | h | h <;> simp [h])
    | (exfalso; exact hz (by simp_all) (by simp_all))
    | (exfalso; simp_all; done)
    | trace_state
end
end Go.Proofs.YtjedkgogjehigaaGreat
end
section
set_option linter.unusedVariables false
set_option linter.unusedSimpArgs false
set_option maxHeartbeats 8000000
set_option linter.unusedSectionVars false
namespace Go.Proofs.YtjedkgogjehigaaGreat
open Lf Go
attribute [local irreducible] PureOp EffOp Ev RG W Then InBlock Lf.Fin nth App InitE Pick SubE EvL EvD EvP EvR ResL Lf.Lex SubR SubBR RA RAll EvC FinO FinM ResM ResD FinS val pw digs trimL
section
variable {lets : List Let} {v : EnvV}
theorem units_ok (hl : LIn lets) (e : Exp) (oe : OkE e) (v : EnvV) (hv : v.Len) : ACalls Tryz.prog 4 [slL lets, aE e, vV v] (.pv (cB true)) := by
  have h1 := few_ok hl e oe v hv
  have o := ofT_ok hl oe
  obtain ⟨R, v1, f1, k1⟩ := value_res hl oe hv
  by_cases hr : (ofT lets e).e ≠ 0 ∨ R.e = 1
  · exact units_ret h1 o v1 hr
  have hx : (ofT lets e).e = 0 := by omega
  obtain ⟨en, oen, hL, rfl, st, e1⟩ := k1 (by omega)
  obtain ⟨r12, t12⟩ := statF_yes st
  have hbody : ∀ y ∈ lets, rightF 12 y.body = true := fun y hy => (statF_yes (hL.2 y hy).1).1
  have hany : (lets.any fun y => !rightF 12 y.body) = false := by
    rw [← Bool.not_eq_true, List.any_eq_true]
    rintro ⟨y, hy, h⟩
    rw [hbody y hy] at h; cases h
  have hT : ofT lets e = (ofU lets (tabU lets lets.length) e []).t := by
    unfold ofT
    rw [r12, decide_eq_true hL.1, hany]; rfl
  rw [hT] at hx o
  have hU := okT hx
  have hU' : ofU (lets.take lets.length) (tabU lets lets.length) e [] = .ok (ofU lets (tabU lets lets.length) e []).t.u := by rw [List.take_length]; exact hU
  have rp := repl_ok hL lets.length (Nat.le_refl _) 12 e r12
  rw [List.take_length] at rp
  have kn := knows_ok en.V hv _ (repl_okE hL lets.length (Nat.le_refl _) e oe)
  have o0 := of_ok 0 1 (by unfold i64B; omega) (by unfold i64B; omega) (by omega)
  have o1 := of_ok 1 1 (by unfold i64B; omega) (by unfold i64B; omega) (by omega)
  rw [show Rat.divInt 0 1 = one01 false from (one01_eq false).symm, zF_zero] at o0
  rw [show Rat.divInt 1 1 = one01 true from (one01_eq true).symm, zF_one] at o1
  obtain ⟨b0, s0, g0⟩ := sameRs_any R (.ok (one01 false)) f1 (one01_ok false)
  obtain ⟨b1, s1, g1⟩ := sameRs_any R (.ok (one01 true)) f1 (one01_ok true)
  replace s0 : ACalls Tryz.prog 10 [R.v, zF (one01 false)] (.pv (cB b0)) := s0
  replace s1 : ACalls Tryz.prog 10 [R.v, zF (one01 true)] (.pv (cB b1)) := s1
  rw [zF_zero] at s0
  rw [zF_one] at s1
  refine units_walk h1 o v1 rp kn o0 o1 s0 s1 (fun hk h14 => ?_) ?_
  · have hp := plain_rep hbody lets.length (Nat.le_refl _) 12 e [] _ r12 hU'
    have h := plain_14 (en := en) _ hp hk
    have hv2 : valF lets en lets.length e = evF [] en [] (repF lets (repT lets lets.length) e) := repl_val lets.length (Nat.le_refl _) e
    rw [← hv2, ← e1] at h
    cases R with
    | ok r => exact absurd h14 (by show (0 : Int) ≠ 14; omega)
    | err c =>
      have : c = 14 := h14
      subst this
      exact h rfl
  · by_cases hu : (ofU lets (tabU lets lets.length) e []).t.u = 4
    · cases R with
      | err c => exact .inl f1
      | ok r =>
        rw [hu] at hU'
        obtain ⟨b, hb⟩ := truth_val (en := en) hL lets.length (Nat.le_refl _) 12 e [] r12 t12 hU' r e1.symm
        subst hb
        cases b with
        | false => exact .inr (.inr (.inl (g0 rfl)))
        | true => exact .inr (.inr (.inr (g1 rfl)))
    · exact .inr (.inl hu)
end
end Go.Proofs.YtjedkgogjehigaaGreat
end
section
set_option linter.unusedVariables false
set_option linter.unusedSimpArgs false
set_option linter.unusedSectionVars false
namespace Lf
open Go Go.RowKit Go.ChangeShapes Go.WideShapes Go.ChangeAt
def okK (T : TT) (R : Nat → Bool) (ti : TI) : Bool := match ti.kind with
  | .int _ | .bool | .string => Nat.beq ti.sz 1
  | .slice e => Nat.beq ti.sz 1 && R e && (match T e with | some te => Nat.blt 0 te.sz | none => false)
  | .struct fs => (match tile T 0 fs with | some s => Nat.beq s ti.sz | none => false) && fs.all fun f => R f.2
  | _ => false
def supR (T : TT) : Nat → Nat → Bool
  | 0, _ => true
  | n + 1, t => match T t with
    | some ti => okK T (supR T n) ti
    | none => false
def closedB (T : TT) (S : List Nat) : Bool := S.all fun t => match T t with | some ti => okK T (fun e => S.contains e) ti | none => false
theorem okK_mono {T : TT} {R R' : Nat → Bool} {ti : TI} (h : ∀ e, R e = true → R' e = true) (hk : okK T R ti = true) : okK T R' ti = true := by
  unfold okK at hk ⊢
  split at hk
  · exact hk
  · exact hk
  · exact hk
  · simp only [Bool.and_eq_true] at hk ⊢
    exact ⟨⟨hk.1.1, h _ hk.1.2⟩, hk.2⟩
  · simp only [Bool.and_eq_true, List.all_eq_true] at hk ⊢
    exact ⟨hk.1, fun f hf => h _ (hk.2 f hf)⟩
  · cases hk
theorem supR_closed {T : TT} {S : List Nat} (h : closedB T S = true) : ∀ (n t : Nat), t ∈ S → supR T n t = true
  | 0, _, _ => rfl
  | n + 1, t, ht => by
    have h1 := List.all_eq_true.1 h t ht
    rw [supR]
    cases hti : T t with
    | none => rw [hti] at h1; cases h1
    | some ti =>
      rw [hti] at h1
      exact okK_mono (fun e he => supR_closed h n e (by simpa using he)) h1
section
variable {P : Program} {T : TT} (hT : TOK P T)
include hT
theorem readR {H : Type} {enc : TypeId × Value → H} {w : World} {base : Nat} {spare : Nat → Bool} {held : Bool} : ∀ (n t fuel : Nat) (cs : List Value) (x : DataW H × List MemPlace), fuel ≤ n → supR T n t = true → DataW.trod enc P w base spare held fuel t cs = some x →
    ∃ cl, RelL (allΦ w) cs cl ∧ TyL T n t cl ∧ ∀ ti, T t = some ti → cl.length = ti.sz := by
  intro n
  induction n with
  | zero =>
    intro t fuel cs x hf hs h
    obtain rfl : fuel = 0 := by omega
    simp [DataW.trod] at h
  | succ n ih =>
    intro t fuel cs x hf hs h
    cases hti : T t with
    | none => simp [supR, hti] at hs
    | some ti =>
      have hk := (hT t ti hti).kind
      have hz := cellsOf_ti hT hti
      simp only [supR, hti, okK] at hs
      simp only [TyL, hti, Option.map_some]
      cases hkd : ti.kind with
      | int k =>
        rw [hkd] at hk hs
        obtain ⟨i, rfl, hx, hw⟩ := DataW.trod_int hk h
        exact ⟨[.int k i], ⟨.int k i, trivial⟩, ⟨i, rfl, hw⟩, fun tj hj => by obtain rfl := Option.some.inj hj; simpa using (Nat.eq_of_beq_eq_true hs).symm⟩
      | bool =>
        rw [hkd] at hk hs
        obtain ⟨b, rfl, hx⟩ := DataW.trod_bool hk h
        exact ⟨[.bool b], ⟨.bool b, trivial⟩, ⟨b, rfl⟩, fun tj hj => by obtain rfl := Option.some.inj hj; simpa using (Nat.eq_of_beq_eq_true hs).symm⟩
      | string =>
        rw [hkd] at hk hs
        obtain ⟨s, rfl, hx, hw⟩ := DataW.trod_string hk h
        refine ⟨[.str s.data.toList], ⟨.str s, trivial⟩, ⟨_, rfl, ?_⟩, fun tj hj => by obtain rfl := Option.some.inj hj; simpa using (Nat.eq_of_beq_eq_true hs).symm⟩
        rw [Array.length_toList]; exact hw
      | slice e =>
        rw [hkd] at hk hs
        simp only [Bool.and_eq_true] at hs
        obtain ⟨⟨hs1, hs2⟩, hs3⟩ := hs
        cases hte : T e with
        | none => rw [hte] at hs3; cases hs3
        | some te =>
          rw [hte] at hs3
          have hpos := blt_lt hs3
          have hze := cellsOf_ti hT hte
          have hlen1 : ∀ tj, some ti = some tj → 1 = tj.sz := fun tj hj => by obtain rfl := Option.some.inj hj; exact (Nat.eq_of_beq_eq_true hs1).symm
          rcases DataW.trod_slice hk h with ⟨rfl, hx⟩ | ⟨a, len, cap, elems, rest, m, rfl, rfl, hx, hb, hl, hm, hel, hget, _, _⟩
          · exact ⟨[.sl []], ⟨.sl0, trivial⟩, ⟨[], rfl, Nat.zero_le _, fun r hr => by cases hr⟩, hlen1⟩
          · have each : ∀ i, i < len → ∃ cl : List Cell, ∃ ci, w.cells? base (a.add (i * P.cellsOf e)) (P.cellsOf e) = some ci ∧ RelL (allΦ w) ci cl ∧ TyL T n e cl ∧ cl.length = te.sz := by
              intro i hi
              have h1 := hget i hi
              rw [List.getElem?_eq_getElem (by omega)] at h1
              cases hc : w.cells? base (a.add (i * P.cellsOf e)) (P.cellsOf e) with
              | none => rw [hc] at h1; cases h1
              | some ci =>
                rw [hc] at h1
                obtain ⟨cl, g1, g2, g3⟩ := ih e m ci _ (by omega) hs2 h1
                exact ⟨cl, ci, rfl, g1, g2, g3 te hte⟩
            obtain ⟨rows, hr1, hr2⟩ := pick_rows each
            refine ⟨[.sl rows], ⟨?_, trivial⟩, ⟨rows, rfl, by omega, fun r hr => ?_⟩, hlen1⟩
            · by_cases h0 : len = 0
              · subst h0
                obtain rfl : rows = [] := List.eq_nil_of_length_eq_zero hr1
                exact .slE a cap
              · obtain ⟨b, off, spot⟩ := a
                have cellat : ∀ i j r c, rows[i]? = some r → r[j]? = some c → ∃ v, w.cell? (Addr.add (Addr.add ⟨b, off, spot⟩ (i * te.sz)) j) = some v ∧ Rel (allΦ w) v c := by
                  intro i j r c h1 h2
                  obtain ⟨ci, g1, g2, g3, g4⟩ := hr2 i r h1
                  obtain ⟨v, hv1, hv2⟩ := g2.get h2
                  rw [hze] at g1
                  have hj : j < te.sz := by have := (List.getElem?_eq_some_iff.1 h2).1; omega
                  have := World.cells?_some g1
                  refine ⟨v, ?_, hv2⟩
                  rw [← hv1]
                  exact this.2.2 j hj
                have hrow0 : ∃ r, rows[0]? = some r := ⟨rows[0]'(by omega), List.getElem?_eq_getElem (by omega)⟩
                obtain ⟨r0, hr0⟩ := hrow0
                obtain ⟨_, _, _, _, hl0⟩ := hr2 0 r0 hr0
                obtain ⟨v0, hv0, _⟩ := cellat 0 0 r0 _ hr0 (List.getElem?_eq_getElem (show 0 < r0.length by omega))
                have hz0 : Addr.add (Addr.add ⟨b, off, spot⟩ (0 * te.sz)) 0 = ⟨b, off, spot⟩ := by simp [Addr.add]
                rw [hz0] at hv0
                have hsp : spot = none := (cell_all hv0).1
                subst hsp
                refine .sl b off len cap te.sz rows (fun i j => ((allΦ w b).bind (·[off + (i * te.sz + j)]?)).getD .nilFunc) hr1 hl (fun r hr => ?_) (fun i j r c h1 h2 => ?_) (fun i j r c h1 h2 => ?_)
                · obtain ⟨i, hi⟩ := List.getElem?_of_mem hr
                  obtain ⟨_, _, _, _, g⟩ := hr2 i r hi
                  exact g
                · obtain ⟨v, hv, _⟩ := cellat i j r c h1 h2
                  have := (cell_all hv).2
                  simp only [Addr.add_lit] at this
                  rw [show off + (i * te.sz + j) = off + i * te.sz + j by omega, this]; rfl
                · obtain ⟨v, hv, hv2⟩ := cellat i j r c h1 h2
                  have := (cell_all hv).2
                  simp only [Addr.add_lit] at this
                  rw [show off + (i * te.sz + j) = off + i * te.sz + j by omega, this]; exact hv2
            · obtain ⟨i, hi⟩ := List.getElem?_of_mem hr
              obtain ⟨_, _, _, g, _⟩ := hr2 i r hi
              exact g
      | struct fs =>
        rw [hkd] at hk hs
        obtain ⟨fields, hu, hfs⟩ := hk
        simp only [Bool.and_eq_true] at hs
        obtain ⟨hs1, hs2⟩ := hs
        cases htl : tile T 0 fs with
        | none => rw [htl] at hs1; cases hs1
        | some tot =>
          rw [htl] at hs1
          have htot := Nat.eq_of_beq_eq_true hs1
          obtain ⟨xs, m, rfl, hx, hlen, hxl, hget⟩ := DataW.trod_struct hu h
          have hall : ∀ f ∈ fs, ∃ y, DataW.trod enc P w base spare held m f.2 ((cs.drop f.1).take (P.cellsOf f.2)) = some y := by
            intro f hf
            rw [← hfs] at hf
            obtain ⟨g, hg, rfl⟩ := List.mem_map.1 hf
            obtain ⟨i, hi⟩ := List.getElem?_of_mem hg
            have hi' : fields[i]? = some g := by rw [← hi]; simp
            have hlt : i < xs.length := by rw [hxl]; exact (Array.getElem?_eq_some_iff.1 hi').1
            exact ⟨xs[i], by rw [hget i g hi', List.getElem?_eq_getElem hlt]⟩
          have main : ∀ (gs : List (Nat × Nat)) (o : Nat), (∀ f ∈ gs, ∃ y, DataW.trod enc P w base spare held m f.2 ((cs.drop f.1).take (P.cellsOf f.2)) = some y) → gs.all (fun f => supR T n f.2) = true → tile T o gs = some tot → cs.length = tot →
              ∃ cl, RelL (allΦ w) (cs.drop o) cl ∧ TyS (TyL T n) gs cl ∧ o + cl.length = tot := by
            intro gs
            induction gs with
            | nil =>
              intro o _ _ h1 h2
              simp only [tile, Option.some.injEq] at h1
              refine ⟨[], ?_, rfl, by simp [h1]⟩
              rw [List.drop_eq_nil_of_le (by omega)]
              trivial
            | cons f gs ihs =>
              intro o hall' hsup h1 h2
              obtain ⟨fo, ft⟩ := f
              rw [tile] at h1
              cases hbe : Nat.beq fo o with
              | false => rw [hbe] at h1; cases h1
              | true =>
                have := Nat.eq_of_beq_eq_true hbe
                subst this
                rw [hbe, cond_true] at h1
                cases htf : T ft with
                | none => rw [htf] at h1; cases h1
                | some tf =>
                  rw [htf] at h1
                  simp only [Option.bind_some] at h1
                  simp only [List.all_cons, Bool.and_eq_true] at hsup
                  obtain ⟨y, hy⟩ := hall' _ (List.mem_cons_self ..)
                  obtain ⟨c1, a1, a2, a3⟩ := ih ft m _ y (by omega) hsup.1 hy
                  obtain ⟨c2, b1, b2, b3⟩ := ihs (fo + tf.sz) (fun g hg => hall' g (List.mem_cons_of_mem _ hg)) hsup.2 h1 h2
                  have hl1 := a3 tf htf
                  refine ⟨c1 ++ c2, ?_, ⟨c1, c2, rfl, a2, b2⟩, by simp; omega⟩
                  have e : cs.drop fo = (cs.drop fo).take tf.sz ++ cs.drop (fo + tf.sz) := by
                    rw [← List.drop_drop, List.take_append_drop]
                  rw [e]
                  rw [cellsOf_ti hT htf] at a1
                  exact a1.append b1
          obtain ⟨cl, c1, c2, c3⟩ := main fs 0 hall hs2 htl (by rw [hlen, hz, htot])
          refine ⟨cl, by simpa using c1, c2, fun tj hj => ?_⟩
          obtain rfl := Option.some.inj hj
          omega
      | array k e => rw [hkd] at hs; cases hs
      | ptr e => rw [hkd] at hs; cases hs
      | map k e => rw [hkd] at hs; cases hs
      | func => rw [hkd] at hs; cases hs
      | iface => rw [hkd] at hs; cases hs
      | other => rw [hkd] at hs; cases hs
/-- A slice that came in. -/
theorem readR_slice {H : Type} {enc : TypeId × Value → H} {w : World} {base b0 : Nat} {spare : Nat → Bool} {held : Bool} {r : Reach} {t e : Nat} {v : Value} {d : DataW H} {ps : List MemPlace} {S : List Nat} (hS : closedB T S = true) (hm : t ∈ S) (hu : P.underlying t = some (.slice e))
    (hval : Value.okWide P w r b0 t v) (hd : DataW.Trod enc P w base spare held t v d ps) : ∃ n c, Rel (allΦ w) v c ∧ TyL T n t [c] := by
  obtain ⟨a, len, cap, rfl⟩ := okWide_slice hu hval
  obtain ⟨fuel, hf⟩ := hd
  obtain ⟨cl, h1, h2, _⟩ := readR hT fuel t fuel _ _ (Nat.le_refl _) (supR_closed hS _ _ hm) hf
  simp only [Value.cells] at h1
  match cl, h1, h2 with
  | [c], h1, h2 => exact ⟨_, c, h1.1, h2⟩
/-- A struct that came in. -/
theorem readR_struct {H : Type} {enc : TypeId × Value → H} {w : World} {base b0 : Nat} {spare : Nat → Bool} {held : Bool} {r : Reach} {t : Nat} {fs : Array Field} {v : Value} {d : DataW H} {ps : List MemPlace} {S : List Nat} (hS : closedB T S = true) (hm : t ∈ S) (hu : P.underlying t = some (.struct fs))
    (hval : Value.okWide P w r b0 t v) (hd : DataW.Trod enc P w base spare held t v d ps) : ∃ n cs, PRel (allΦ w) v (.agg cs) ∧ TyL T n t cs := by
  obtain ⟨arr, rfl, _⟩ := okWide_struct hu hval
  obtain ⟨fuel, hf⟩ := hd
  obtain ⟨cl, h1, h2, _⟩ := readR hT fuel t fuel _ _ (Nat.le_refl _) (supR_closed hS _ _ hm) hf
  exact ⟨_, cl, ⟨arr, rfl, h1⟩, h2⟩
end
end Lf
end
section
namespace Go.Proofs.YtjedkgogjehigaaGreat
open Lf Go
theorem exp_of : ∀ (n : Nat) {cs : List Cell}, TyL TY n 25 cs → ∃ e : Exp, cs = encX e ∧ OkE e
  | 0, cs, h => h.elim
  | 1, cs, h => by
    obtain ⟨a1, b1, rfl, t1, -⟩ : ∃ a1 b1, cs = a1 ++ b1 ∧ TyL TY 0 3 a1 ∧ True := by
      obtain ⟨a1, b1, h1, h2, _⟩ := h; exact ⟨a1, b1, h1, h2, trivial⟩
    exact t1.elim
  | n + 2, cs, h => by
    obtain ⟨a1, b1, rfl, t1, a2, b2, rfl, t2, a3, b3, rfl, t3, a4, b4, rfl, t4, a5, b5, rfl, t5, rfl⟩ : ∃ a1 b1, cs = a1 ++ b1 ∧ TyL TY (n + 1) 3 a1 ∧ ∃ a2 b2, b1 = a2 ++ b2 ∧ TyL TY (n + 1) 3 a2 ∧ ∃ a3 b3, b2 = a3 ++ b3 ∧ TyL TY (n + 1) 3 a3 ∧ ∃ a4 b4, b3 = a4 ++ b4 ∧ TyL TY (n + 1) 9 a4 ∧ ∃ a5 b5, b4 = a5 ++ b5 ∧ TyL TY (n + 1) 23 a5 ∧ b5 = [] := h
    obtain ⟨i1, rfl, _⟩ : ∃ i, a1 = [.int .i64 i] ∧ (Lit.int .i64 i).wf = true := t1
    obtain ⟨i2, rfl, _⟩ : ∃ i, a2 = [.int .i64 i] ∧ (Lit.int .i64 i).wf = true := t2
    obtain ⟨i3, rfl, _⟩ : ∃ i, a3 = [.int .i64 i] ∧ (Lit.int .i64 i).wf = true := t3
    obtain ⟨s, rfl, hs⟩ : ∃ s, a4 = [.str s] ∧ s.length ≤ maxLen := t4
    obtain ⟨rows, rfl, hl, hr⟩ : ∃ rows, a5 = [Cell.sl rows] ∧ rows.length ≤ maxLen ∧ ∀ r ∈ rows, TyL TY n 25 r := t5
    obtain ⟨l, rfl, ho⟩ := rows_map (f := encX) (p := OkE) fun r hr' => exp_of n (hr r hr')
    refine ⟨.mk i1 i2 i3 s l, ?_, .mk (by unfold maxLen at hs; omega) (by simp only [List.length_map] at hl; unfold maxLen at hl; omega) ho⟩
    have := aE_mk i1 i2 i3 s l
    injection this with this
    exact this.symm
theorem let_of : ∀ (n : Nat) {cs : List Cell}, TyL TY n 56 cs → ∃ x : Let, cs = encL x ∧ OkE x.body
  | 0, cs, h => h.elim
  | 1, cs, h => by
    obtain ⟨a1, b1, rfl, t1, -⟩ : ∃ a1 b1, cs = a1 ++ b1 ∧ TyL TY 0 9 a1 ∧ True := by
      obtain ⟨a1, b1, h1, h2, _⟩ := h; exact ⟨a1, b1, h1, h2, trivial⟩
    exact t1.elim
  | n + 2, cs, h => by
    obtain ⟨a1, b1, rfl, t1, a2, b2, rfl, t2, rfl⟩ : ∃ a1 b1, cs = a1 ++ b1 ∧ TyL TY (n + 1) 9 a1 ∧ ∃ a2 b2, b1 = a2 ++ b2 ∧ TyL TY (n + 1) 25 a2 ∧ b2 = [] := h
    obtain ⟨s, rfl, hs⟩ : ∃ s, a1 = [.str s] ∧ s.length ≤ maxLen := t1
    obtain ⟨e, rfl, he⟩ := exp_of _ t2
    exact ⟨⟨s, e⟩, rfl, he⟩
theorem lets_in : ∀ (n : Nat) {c : Cell}, TyL TY n 22 [c] → ∃ l : List Let, c = .sl (l.map encL) ∧ LIn l
  | 0, c, h => h.elim
  | n + 1, c, h => by
    obtain ⟨rows, h1, hl, h3⟩ : ∃ rows, [c] = [Cell.sl rows] ∧ rows.length ≤ maxLen ∧ ∀ r ∈ rows, TyL TY n 56 r := h
    obtain rfl := (List.cons.inj h1).1
    obtain ⟨l, rfl, ho⟩ := rows_map (f := encL) (p := fun y => OkE y.body) fun r hr => let_of n (h3 r hr)
    exact ⟨l, rfl, by simp only [List.length_map] at hl; unfold maxLen at hl; omega, ho⟩
theorem int_of1 {n : Nat} {cs : List Cell} (h : TyL TY (n + 1) 3 cs) : ∃ i : Int, cs = Lf.encI i ∧ True := by
  obtain ⟨i, rfl, _⟩ : ∃ i, cs = [.int .i64 i] ∧ (Lit.int .i64 i).wf = true := h
  exact ⟨i, rfl, trivial⟩
structure BV where
  s : Int
  l : List Int
abbrev encBV (b : BV) : List Cell := [.int .i64 b.s, .sl (b.l.map Lf.encI)]
theorem big_of {n : Nat} {cs : List Cell} (h : TyL TY (n + 3) 38 cs) : ∃ b : BV, cs = encBV b ∧ b.l.length ≤ 9223372036854775807 := by
  obtain ⟨a1, b1, rfl, t1, a2, b2, rfl, t2, rfl⟩ : ∃ a1 b1, cs = a1 ++ b1 ∧ TyL TY (n + 2) 3 a1 ∧ ∃ a2 b2, b1 = a2 ++ b2 ∧ TyL TY (n + 2) 36 a2 ∧ b2 = [] := h
  obtain ⟨s, rfl, _⟩ : ∃ i, a1 = [.int .i64 i] ∧ (Lit.int .i64 i).wf = true := t1
  obtain ⟨rows, rfl, hl, h3⟩ : ∃ rows, a2 = [Cell.sl rows] ∧ rows.length ≤ maxLen ∧ ∀ r ∈ rows, TyL TY (n + 1) 3 r := t2
  obtain ⟨l, rfl, _⟩ := rows_map (f := Lf.encI) (p := fun _ => True) fun r hr => int_of1 (h3 r hr)
  exact ⟨⟨s, l⟩, rfl, by simp only [List.length_map] at hl; unfold maxLen at hl; omega⟩
theorem fq_of {n : Nat} {cs : List Cell} (h : TyL TY (n + 4) 40 cs) : ∃ f : Fq, cs = encF f ∧ FqOk f := by
  obtain ⟨a1, b1, rfl, t1, a2, b2, rfl, t2, rfl⟩ : ∃ a1 b1, cs = a1 ++ b1 ∧ TyL TY (n + 3) 38 a1 ∧ ∃ a2 b2, b1 = a2 ++ b2 ∧ TyL TY (n + 3) 38 a2 ∧ b2 = [] := h
  obtain ⟨x, rfl, hx⟩ := big_of t1
  obtain ⟨y, rfl, hy⟩ := big_of t2
  exact ⟨⟨x.s, x.l, y.s, y.l⟩, rfl, hx, hy⟩
theorem fqs_of {n : Nat} {cs : List Cell} (h : TyL TY (n + 5) 27 cs) : ∃ l : List Fq, cs = [.sl (l.map encF)] ∧ l.length ≤ 9223372036854775807 ∧ ∀ q ∈ l, FqOk q := by
  obtain ⟨rows, rfl, hl, h3⟩ : ∃ rows, cs = [Cell.sl rows] ∧ rows.length ≤ maxLen ∧ ∀ r ∈ rows, TyL TY (n + 4) 40 r := h
  obtain ⟨l, rfl, hq⟩ := rows_map (f := encF) (p := fun f => FqOk f) fun r hr => fq_of (n := n) (h3 r hr)
  exact ⟨l, rfl, by simp only [List.length_map] at hl; unfold maxLen at hl; omega, hq⟩
theorem str_of {n : Nat} {cs : List Cell} (h : TyL TY (n + 1) 9 cs) : ∃ x : Str, cs = encS x ∧ True := by
  obtain ⟨s, rfl, _⟩ : ∃ s, cs = [.str s] ∧ s.length ≤ maxLen := h
  exact ⟨s, rfl, trivial⟩
theorem strs_of {n : Nat} {cs : List Cell} (h : TyL TY (n + 2) 26 cs) : ∃ l : List Str, cs = [.sl (l.map encS)] ∧ l.length ≤ 9223372036854775807 := by
  obtain ⟨rows, rfl, hl, h3⟩ : ∃ rows, cs = [Cell.sl rows] ∧ rows.length ≤ maxLen ∧ ∀ r ∈ rows, TyL TY (n + 1) 9 r := h
  obtain ⟨l, rfl, _⟩ := rows_map (f := encS) (p := fun _ => True) fun r hr => str_of (n := n) (h3 r hr)
  exact ⟨l, rfl, by simp only [List.length_map] at hl; unfold maxLen at hl; omega⟩
theorem env_in {cs : List Cell} (h : TyL TY 6 29 cs) : ∃ v : EnvV, cs = encEnv v ∧ v.Len := by
  obtain ⟨a1, b1, rfl, t1, a2, b2, rfl, t2, a3, b3, rfl, t3, a4, b4, rfl, t4, rfl⟩ : ∃ a1 b1, cs = a1 ++ b1 ∧ TyL TY 5 26 a1 ∧ ∃ a2 b2, b1 = a2 ++ b2 ∧ TyL TY 5 27 a2 ∧ ∃ a3 b3, b2 = a3 ++ b3 ∧ TyL TY 5 26 a3 ∧ ∃ a4 b4, b3 = a4 ++ b4 ∧ TyL TY 5 27 a4 ∧ b4 = [] := h
  obtain ⟨N, rfl, n1⟩ := strs_of (n := 3) t1
  obtain ⟨V, rfl, n2, o2⟩ := fqs_of (n := 0) t2
  obtain ⟨I, rfl, n3⟩ := strs_of (n := 3) t3
  obtain ⟨R, rfl, n4, o4⟩ := fqs_of (n := 0) t4
  exact ⟨⟨N, V, I, R⟩, rfl, ⟨n1, n2, n3, n4, o2, o4⟩⟩
end Go.Proofs.YtjedkgogjehigaaGreat
end
section
namespace Go.Proofs.YtjedkgogjehigaaGreat
open Lf Go Go.ChangeShapes Go.WideShapes Go.ChangeAt Go.RowKit
namespace UnitsRow
theorem own : ownKnob Tryz.prog.godebug = none := by kernel_rfl
theorem laidOut : laidOutB Tryz.prog = true := by kernel_rfl
set_option maxRecDepth 100000 in
theorem lifted (os : Os) (started : os.Started) (H : Type) (enc : TypeId × Value → H) :
    ReturnsInHanded {} Tryz.checked os 4 .any (Rows.evalUnitsSpec.pre6 enc Tryz.prog Tryz.f4 Rows.evalUnitsRow.domain false) (Rows.evalUnitsSpec.post enc Tryz.prog Tryz.f4 false true false false) := by
  refine returnsInHanded_of_change (C := Tryz.checked) own started (by kernel_rfl) Tryz.func4
    (ChangeSpec.witness6 (enc := enc) (C := Tryz.checked) false ⟨#[], #[.slice none 0 0, .agg #[.int .i64 0, .int .i64 0, .int .i64 0, .string ⟨#[]⟩, .slice none 0 0], .agg #[.slice none 0 0, .slice none 0 0, .slice none 0 0, .slice none 0 0]], []⟩ 8 (by kernel_rfl) (by kernel_rfl) (by kernel_rfl) (by kernel_rfl)) ?_
  intro W base args ds gs before hval0 hW hcnd _
  have hval : ∀ (j : Nat) t v, Tryz.f4.params[j]? = some t → args[j]? = some v → Value.okWide Tryz.prog W .any base t v := hval0
  have hW' := hW
  obtain ⟨p, q, hA0, hV, rfl, hfz, hnd⟩ := hW
  have hA : DataW.TrodAll enc Tryz.prog W 0 (fun _ => true) true Tryz.f4.params.toList args.toList ds p := hA0
  rw [Tryz.params4] at hA hval
  obtain ⟨v0, vs0, d0, ds0, p0, q0, hargs, rfl, rfl, h0, r0⟩ := trodAll_cons hA
  obtain ⟨v1, vs1, d1, ds1, p1, q1, rfl, rfl, rfl, h1, r1⟩ := trodAll_cons r0
  obtain ⟨v2, vs2, d2, ds2, p2, q2, rfl, rfl, rfl, h2, r2⟩ := trodAll_cons r1
  obtain ⟨rfl, rfl, rfl⟩ := trodAll_nil r2
  obtain rfl : args = #[v0, v1, v2] := by cases args; simp_all
  obtain ⟨rfl, rfl⟩ := trodVars_none hV
  have k0 := h0
  have lt0 : ∀ x ∈ p0, x.block < W.heap.size := by obtain ⟨m, hm⟩ := k0; exact DataW.trod_lt m _ _ _ hm
  obtain ⟨n0, c0, rel0, ty0⟩ := readR_slice TYok (S := [22,56,25,23,9,3]) (by kernel_rfl) (by simp) Tryz.underlying22 (hval 0 22 v0 rfl rfl) h0
  obtain ⟨a0, rfl, w0⟩ := lets_in _ ty0
  have k1 := h1
  have lt1 : ∀ x ∈ p1, x.block < W.heap.size := by obtain ⟨m, hm⟩ := k1; exact DataW.trod_lt m _ _ _ hm
  obtain ⟨n1, c1, rel1, ty1⟩ := readR_struct TYok (S := [25,23,9,3]) (by kernel_rfl) (by simp) Tryz.underlying25 (hval 1 25 v1 rfl rfl) h1
  obtain ⟨a1, rfl, w1⟩ := exp_of _ ty1
  have k2 := h2
  have lt2 : ∀ x ∈ p2, x.block < W.heap.size := by obtain ⟨m, hm⟩ := k2; exact DataW.trod_lt m _ _ _ hm
  obtain ⟨c2, rel2, ty2⟩ := read_struct TYok 6 Tryz.underlying29 (by kernel_rfl) (hval 2 29 v2 rfl rfl) h2
  obtain ⟨a2, rfl, w2⟩ := env_in ty2
  clear hA0 hval0
  have hc := (units_ok w0 a1 w1 a2 w2).calls (allΦ W) W #[v0, v1, v2] (fits_all W)
    (ArgsRel.of (ArgsL.cons rel0 (ArgsL.cons rel1 (ArgsL.cons rel2 ArgsL.nil))))
  refine hc.mono fun e W' ⟨v, Φ', he, hv, _, _, _, bel⟩ => ?_
  subst he
  obtain rfl : v = .bool true := AVRel.bool hv
  exact ⟨_, rfl, _, _, _, [], _, [], hW', trodAll_mk1 (shut_bool Tryz.underlying4 _), (trodAll_cons_mk (Below.trod laidOut (by kernel_rfl) (of_decide_eq_true (by kernel_rfl)) k0 bel lt0) (trodAll_cons_mk (Below.trod laidOut (by kernel_rfl) (of_decide_eq_true (by kernel_rfl)) k1 bel lt1) (trodAll_cons_mk (Below.trod laidOut (by kernel_rfl) (of_decide_eq_true (by kernel_rfl)) k2 bel lt2) trodAll_mk0))), rfl, bel.frame _, fun h => by cases h⟩
theorem over : Rows.evalUnitsRow.holds Tryz.pinned (OpenSpec.ofChange Rows.evalUnitsSpec) :=
  OpenClaim.holds_of_wide 4 Tryz.f4 rfl rfl rfl rfl rfl rfl rfl ⟨rfl, rfl, rfl, rfl, rfl⟩ rfl rfl rfl rfl rfl (by kernel_rfl) Tryz.func4 (by kernel_rfl)
    (of_decide_eq_true (by kernel_rfl)) (by unfold Func.isWrapper; first | (rw [if_pos (by decide +kernel)]; kernel_rfl) | (rw [if_neg (by decide +kernel)]; exact ⟨rfl, rfl⟩))
    (fun os started H enc _ => lifted os started H enc)
end UnitsRow
theorem evalUnits_proved : Rows.EvalUnitsSaid := UnitsRow.over
end Go.Proofs.YtjedkgogjehigaaGreat
end
