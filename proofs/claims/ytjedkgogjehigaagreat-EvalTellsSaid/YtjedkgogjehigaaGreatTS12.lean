/-
  Part 12 of what the proof rests on.
-/
import Derived.Test.YtjedkgogjehigaaGreatTS11
import Derived.Test.YtjedkgogjehigaaGreatTS03
import Derived.Test.YtjedkgogjehigaaGreatTS07
section
set_option linter.unusedVariables false
set_option linter.unusedSimpArgs false
set_option maxHeartbeats 8000000
set_option linter.unusedSectionVars false
namespace Go.Proofs.YtjedkgogjehigaaGreat
open Lf Go
attribute [local irreducible] PureOp EffOp Ev RG W Then InBlock Lf.Fin nth App InitE Pick SubE EvL EvD EvP EvR ResL Lf.Lex SubR SubBR EvC FinO FinM ResM ResD FinS val pw digs trimL
section
variable {lets : List Let} {en : EnvQ}
theorem vname_ok (hL : LetsOk lets) (he : en.Ok) (n : Nat) (hn : n ≤ lets.length) (s : Str) (ih : ∀ i, i < n → VCalls lets en 24 [aE (nth lets i).body, cI (i : Int)] (valF lets en i (nth lets i).body)) : VCalls lets en 44 [cS s, cI (n : Int)] (lookN lets (tabF lets en n) s) := by
  unfold lookN
  rw [tabF_len]
  by_cases h : (lets.take n).any (nameEq s) = true
  · rw [if_pos h]
    have hin := hit_ix hn h rfl
    have e1 := tabF_nth lets en hin
    have e2 := tabF_nth lets en (show (lets.take n).findIdx (nameEq s) < lets.length by omega)
    have hf := tabF_fit he hL n hn _ (nth_mem (l := tabF lets en n) (k := (lets.take n).findIdx (nameEq s)) (by rw [tabF_len]; exact hin))
    refine name_hit hL n hn s _ h rfl _ (by rw [e1, e2]) hf ?_
    rw [e1]
    exact ih _ hin
  · rw [if_neg h]
    exact name_none hL n hn s (by simpa using h)
attribute [local irreducible] sgn mag gcdZ quoZ remZ fullZ fullE
abbrev aOp (op k u : Int) (s : Str) (l : List Exp) : PV := .agg [.int .i64 op, .int .i64 k, .int .i64 u, .str s, .sl (l.map encX)]
variable {op k u : Int} {s : Str} {l : List Exp} {n : Nat}
theorem v_num (r : Rat) (h : ACalls Tryz.prog 43 [cI k, cI (if u = 2 then 1000 else 1)] (.tup [zF r, cI 0])) : VCalls lets en 24 [aOp 0 k u s l, cI (n : Int)] (.ok r) := by
  show PCalls Tryz.prog 24 4 (fun b => [.one (.ptr (cellsR lets en b)), aOp 0 k u s l, cI (n : Int)]) (.tup [zF r, cI 0]) (InvR lets en)
  by_cases hu : u = 2
  · rw [if_pos hu] at h
    refine PCalls.of_M TYok (z := 4) (qs := [zF r, cI 0]) [.cell 6 40, .tmp 7] 167 Tryz.func24 (by kernel_rfl) rfl rfl rfl fun G b rows hI => ?_
    simp only [St.initP, initEnv, Nat.reduceAdd, List.cons_append, List.nil_append]
    repeat' (first | ((first | apply U_ | (apply Ug_; exact rfl; exact rfl) | (apply Ugq_; exact rfl; exact rfl) | apply Lex.u | (apply Lex.g; exact rfl; exact rfl) | (apply Lex.gq; exact rfl; exact rfl)); (first | exact QX.B TYok | exact QX.Nil TYok | exact QX.Idx TYok | exact QX.Ext TYok | exact QX.Build TYok | exact QCd (h)); exact rfl) | refine SX.Alloc TYok (h := ?_) | refine SX.Store TYok (h := ?_) | refine SX.Box TYok (h := ?_) | refine SC ?_ | (apply S_isnil TYok; exact rfl; exact rfl; exact rfl; exact Ev.auto; intro bn hnil) | (apply RG.gT; exact rfl; exact rfl; (first | assumption | decide)) | (apply RG.gF; exact rfl; exact rfl; (first | assumption | decide | (rw [ne_eq, Bool.not_eq_true]; assumption) | (rw [ne_eq, Bool.not_eq_false]; assumption)); exact rfl) | (apply W.draw2 (id := 9) [0, 1, 3, 7, 15, 0, 32, 96, 224, 480, 0, 1024, 4095, 8191, 8191, 32767, 65535] [[0], [40], [41], [42], [43], [0], [45], [46], [47], [48], [4], [50], [44, 49, 51], [52], [52]] 15 [(40, 1), (41, 1099511627776), (42, 2199023255552), (43, 4398046511104), (44, 8796093022208), (45, 1), (46, 35184372088832), (47, 70368744177664), (48, 140737488355328), (49, 281474976710656), (50, 16), (51, 1125899906842624), (52, 2832341953150976), (53, 4503599627370496), (54, 4503599627370496)] mixed (by kernel_rfl) rfl rfl) | (apply W.draw2 (id := 11) [0, 1, 3, 7, 15, 0, 32, 96, 224, 480, 0, 1024, 4095, 8191, 8191, 32767, 65535] [[0], [57], [58], [59], [60], [0], [62], [63], [64], [65], [4], [67], [61, 66, 68], [69], [69]] 15 [(57, 1), (58, 144115188075855872), (59, 288230376151711744), (60, 576460752303423488), (61, 1152921504606846976), (62, 1), (63, 4611686018427387904), (64, 9223372036854775808), (65, 18446744073709551616), (66, 36893488147419103232), (67, 16), (68, 147573952589676412928), (69, 371240724483404726272), (70, 590295810358705651712), (71, 590295810358705651712)] mixed (by kernel_rfl) rfl rfl) | (refine W.condA (ht := fun hb => ?_) (hf := fun hb => ?_) <;> (try simp at hb) <;> (try (exfalso; omega))))
    all_goals exact FinP.ret 1000000 rfl hI rfl ResM.auto
  · rw [if_neg hu] at h
    refine PCalls.of_M TYok (z := 4) (qs := [zF r, cI 0]) [.cell 6 40, .tmp 7] 167 Tryz.func24 (by kernel_rfl) rfl rfl rfl fun G b rows hI => ?_
    simp only [St.initP, initEnv, Nat.reduceAdd, List.cons_append, List.nil_append]
    repeat' (first | ((first | apply U_ | (apply Ug_; exact rfl; exact rfl) | (apply Ugq_; exact rfl; exact rfl) | apply Lex.u | (apply Lex.g; exact rfl; exact rfl) | (apply Lex.gq; exact rfl; exact rfl)); (first | exact QX.B TYok | exact QX.Nil TYok | exact QX.Idx TYok | exact QX.Ext TYok | exact QX.Build TYok | exact QCd (h)); exact rfl) | refine SX.Alloc TYok (h := ?_) | refine SX.Store TYok (h := ?_) | refine SX.Box TYok (h := ?_) | refine SC ?_ | (apply S_isnil TYok; exact rfl; exact rfl; exact rfl; exact Ev.auto; intro bn hnil) | (apply RG.gT; exact rfl; exact rfl; (first | assumption | decide)) | (apply RG.gF; exact rfl; exact rfl; (first | assumption | decide | (rw [ne_eq, Bool.not_eq_true]; assumption) | (rw [ne_eq, Bool.not_eq_false]; assumption)); exact rfl) | (apply W.draw2 (id := 9) [0, 1, 3, 7, 15, 0, 32, 96, 224, 480, 0, 1024, 4095, 8191, 8191, 32767, 65535] [[0], [40], [41], [42], [43], [0], [45], [46], [47], [48], [4], [50], [44, 49, 51], [52], [52]] 15 [(40, 1), (41, 1099511627776), (42, 2199023255552), (43, 4398046511104), (44, 8796093022208), (45, 1), (46, 35184372088832), (47, 70368744177664), (48, 140737488355328), (49, 281474976710656), (50, 16), (51, 1125899906842624), (52, 2832341953150976), (53, 4503599627370496), (54, 4503599627370496)] mixed (by kernel_rfl) rfl rfl) | (apply W.draw2 (id := 11) [0, 1, 3, 7, 15, 0, 32, 96, 224, 480, 0, 1024, 4095, 8191, 8191, 32767, 65535] [[0], [57], [58], [59], [60], [0], [62], [63], [64], [65], [4], [67], [61, 66, 68], [69], [69]] 15 [(57, 1), (58, 144115188075855872), (59, 288230376151711744), (60, 576460752303423488), (61, 1152921504606846976), (62, 1), (63, 4611686018427387904), (64, 9223372036854775808), (65, 18446744073709551616), (66, 36893488147419103232), (67, 16), (68, 147573952589676412928), (69, 371240724483404726272), (70, 590295810358705651712), (71, 590295810358705651712)] mixed (by kernel_rfl) rfl rfl) | (refine W.condA (ht := fun hb => ?_) (hf := fun hb => ?_) <;> (try simp at hb) <;> (try (exfalso; omega))))
    all_goals exact FinP.ret 1000000 rfl hI rfl ResM.auto
theorem v_name (R : Rs) (h : VCalls lets en 44 [cS s, cI (n : Int)] R) : VCalls lets en 24 [aOp 1 k u s l, cI (n : Int)] R := by
  obtain ⟨x1, x2, x3, x4, hv⟩ := R.v_agg
  replace h : PCalls Tryz.prog 44 4 (fun b => [.one (.ptr (cellsR lets en b)), cS s, cI (n : Int)]) (.tup [R.v, cI R.e]) (InvR lets en) := h
  show PCalls Tryz.prog 24 4 (fun b => [.one (.ptr (cellsR lets en b)), aOp 1 k u s l, cI (n : Int)]) (.tup [R.v, cI R.e]) (InvR lets en)
  rw [hv] at h ⊢
  generalize R.e = e at *
  refine PCalls.of_M TYok (z := 4) (qs := [.agg [.int .i64 x1, .sl (x2.map Lf.encI), .int .i64 x3, .sl (x4.map Lf.encI)], cI e]) [.cell 6 40, .tmp 7] 167 Tryz.func24 (by kernel_rfl) rfl rfl rfl fun G b rows hI => ?_
  simp only [St.initP, initEnv, Nat.reduceAdd, List.cons_append, List.nil_append]
  repeat' (first | ((first | apply U_ | (apply Ug_; exact rfl; exact rfl) | (apply Ugq_; exact rfl; exact rfl) | apply Lex.u | (apply Lex.g; exact rfl; exact rfl) | (apply Lex.gq; exact rfl; exact rfl)); (first | exact QX.B TYok | exact QX.Nil TYok | exact QX.Idx TYok | exact QX.Ext TYok | exact QX.Build TYok); exact rfl) | refine SX.Alloc TYok (h := ?_) | refine SX.Store TYok (h := ?_) | refine SX.Box TYok (h := ?_) | (apply S_callp (h) (g := 1000000); exact rfl; exact rfl; exact rfl; exact rfl; (first | assumption | exact ⟨_, rfl, by assumption⟩); exact EvD.auto; intro _ hI2) | refine SC ?_ | (apply S_isnil TYok; exact rfl; exact rfl; exact rfl; exact Ev.auto; intro bn hnil) | (apply RG.gT; exact rfl; exact rfl; (first | assumption | decide)) | (apply RG.gF; exact rfl; exact rfl; (first | assumption | decide | (rw [ne_eq, Bool.not_eq_true]; assumption) | (rw [ne_eq, Bool.not_eq_false]; assumption)); exact rfl) | (apply W.draw2 (id := 9) [0, 1, 3, 7, 15, 0, 32, 96, 224, 480, 0, 1024, 4095, 8191, 8191, 32767, 65535] [[0], [40], [41], [42], [43], [0], [45], [46], [47], [48], [4], [50], [44, 49, 51], [52], [52]] 15 [(40, 1), (41, 1099511627776), (42, 2199023255552), (43, 4398046511104), (44, 8796093022208), (45, 1), (46, 35184372088832), (47, 70368744177664), (48, 140737488355328), (49, 281474976710656), (50, 16), (51, 1125899906842624), (52, 2832341953150976), (53, 4503599627370496), (54, 4503599627370496)] mixed (by kernel_rfl) rfl rfl) | (apply W.draw2 (id := 11) [0, 1, 3, 7, 15, 0, 32, 96, 224, 480, 0, 1024, 4095, 8191, 8191, 32767, 65535] [[0], [57], [58], [59], [60], [0], [62], [63], [64], [65], [4], [67], [61, 66, 68], [69], [69]] 15 [(57, 1), (58, 144115188075855872), (59, 288230376151711744), (60, 576460752303423488), (61, 1152921504606846976), (62, 1), (63, 4611686018427387904), (64, 9223372036854775808), (65, 18446744073709551616), (66, 36893488147419103232), (67, 16), (68, 147573952589676412928), (69, 371240724483404726272), (70, 590295810358705651712), (71, 590295810358705651712)] mixed (by kernel_rfl) rfl rfl) | (refine W.condA (ht := fun hb => ?_) (hf := fun hb => ?_) <;> (try simp at hb) <;> (try (exfalso; omega))))
  all_goals exact FinP.ret 1000000 rfl hI2 rfl ResM.auto
theorem v_look (R : Rs) (hop : (op = 2 ∧ R = lookF en.names en.vals s) ∨ (op = 3 ∧ R = lookF en.iss en.rates s)) (he : en.Ok) : VCalls lets en 24 [aOp op k u s l, cI (n : Int)] R := by
  have h1 := lookup_ok en.names en.vals s he.b1 he.l1
  have h2 := lookup_ok en.iss en.rates s he.b2 he.l2
  obtain ⟨x1, x2, x3, x4, hv⟩ := R.v_agg
  show PCalls Tryz.prog 24 4 (fun b => [.one (.ptr (cellsR lets en b)), aOp op k u s l, cI (n : Int)]) (.tup [R.v, cI R.e]) (InvR lets en)
  rcases hop with ⟨rfl, hR⟩ | ⟨rfl, hR⟩
  · rw [← hR] at h1
    unfold resP at h1
    rw [hv] at h1 ⊢
    clear h2 hR
    generalize R.e = e at *
    refine PCalls.of_M TYok (z := 4) (qs := [.agg [.int .i64 x1, .sl (x2.map Lf.encI), .int .i64 x3, .sl (x4.map Lf.encI)], cI e]) [.cell 6 40, .tmp 7] 167 Tryz.func24 (by kernel_rfl) rfl rfl rfl fun G b rows hI => ?_
    simp only [St.initP, initEnv, Nat.reduceAdd, List.cons_append, List.nil_append]
    repeat' (first | ((first | apply U_ | (apply Ug_; exact rfl; exact rfl) | (apply Ugq_; exact rfl; exact rfl) | apply Lex.u | (apply Lex.g; exact rfl; exact rfl) | (apply Lex.gq; exact rfl; exact rfl)); (first | exact QX.B TYok | exact QX.Nil TYok | exact QX.Idx TYok | exact QX.Ext TYok | exact QX.Build TYok | exact QCd (h1)); exact rfl) | refine SX.Alloc TYok (h := ?_) | refine SX.Store TYok (h := ?_) | refine SX.Box TYok (h := ?_) | refine SC ?_ | (apply S_isnil TYok; exact rfl; exact rfl; exact rfl; exact Ev.auto; intro bn hnil) | (apply RG.gT; exact rfl; exact rfl; (first | assumption | decide)) | (apply RG.gF; exact rfl; exact rfl; (first | assumption | decide | (rw [ne_eq, Bool.not_eq_true]; assumption) | (rw [ne_eq, Bool.not_eq_false]; assumption)); exact rfl) | (apply W.draw2 (id := 9) [0, 1, 3, 7, 15, 0, 32, 96, 224, 480, 0, 1024, 4095, 8191, 8191, 32767, 65535] [[0], [40], [41], [42], [43], [0], [45], [46], [47], [48], [4], [50], [44, 49, 51], [52], [52]] 15 [(40, 1), (41, 1099511627776), (42, 2199023255552), (43, 4398046511104), (44, 8796093022208), (45, 1), (46, 35184372088832), (47, 70368744177664), (48, 140737488355328), (49, 281474976710656), (50, 16), (51, 1125899906842624), (52, 2832341953150976), (53, 4503599627370496), (54, 4503599627370496)] mixed (by kernel_rfl) rfl rfl) | (apply W.draw2 (id := 11) [0, 1, 3, 7, 15, 0, 32, 96, 224, 480, 0, 1024, 4095, 8191, 8191, 32767, 65535] [[0], [57], [58], [59], [60], [0], [62], [63], [64], [65], [4], [67], [61, 66, 68], [69], [69]] 15 [(57, 1), (58, 144115188075855872), (59, 288230376151711744), (60, 576460752303423488), (61, 1152921504606846976), (62, 1), (63, 4611686018427387904), (64, 9223372036854775808), (65, 18446744073709551616), (66, 36893488147419103232), (67, 16), (68, 147573952589676412928), (69, 371240724483404726272), (70, 590295810358705651712), (71, 590295810358705651712)] mixed (by kernel_rfl) rfl rfl) | (refine W.condA (ht := fun hb => ?_) (hf := fun hb => ?_) <;> (try simp at hb) <;> (try (exfalso; omega))))
    all_goals exact FinP.ret 1000000 rfl hI rfl ResM.auto
  · rw [← hR] at h2
    unfold resP at h2
    rw [hv] at h2 ⊢
    clear h1 hR
    generalize R.e = e at *
    refine PCalls.of_M TYok (z := 4) (qs := [.agg [.int .i64 x1, .sl (x2.map Lf.encI), .int .i64 x3, .sl (x4.map Lf.encI)], cI e]) [.cell 6 40, .tmp 7] 167 Tryz.func24 (by kernel_rfl) rfl rfl rfl fun G b rows hI => ?_
    simp only [St.initP, initEnv, Nat.reduceAdd, List.cons_append, List.nil_append]
    repeat' (first | ((first | apply U_ | (apply Ug_; exact rfl; exact rfl) | (apply Ugq_; exact rfl; exact rfl) | apply Lex.u | (apply Lex.g; exact rfl; exact rfl) | (apply Lex.gq; exact rfl; exact rfl)); (first | exact QX.B TYok | exact QX.Nil TYok | exact QX.Idx TYok | exact QX.Ext TYok | exact QX.Build TYok | exact QCd (h2)); exact rfl) | refine SX.Alloc TYok (h := ?_) | refine SX.Store TYok (h := ?_) | refine SX.Box TYok (h := ?_) | refine SC ?_ | (apply S_isnil TYok; exact rfl; exact rfl; exact rfl; exact Ev.auto; intro bn hnil) | (apply RG.gT; exact rfl; exact rfl; (first | assumption | decide)) | (apply RG.gF; exact rfl; exact rfl; (first | assumption | decide | (rw [ne_eq, Bool.not_eq_true]; assumption) | (rw [ne_eq, Bool.not_eq_false]; assumption)); exact rfl) | (apply W.draw2 (id := 9) [0, 1, 3, 7, 15, 0, 32, 96, 224, 480, 0, 1024, 4095, 8191, 8191, 32767, 65535] [[0], [40], [41], [42], [43], [0], [45], [46], [47], [48], [4], [50], [44, 49, 51], [52], [52]] 15 [(40, 1), (41, 1099511627776), (42, 2199023255552), (43, 4398046511104), (44, 8796093022208), (45, 1), (46, 35184372088832), (47, 70368744177664), (48, 140737488355328), (49, 281474976710656), (50, 16), (51, 1125899906842624), (52, 2832341953150976), (53, 4503599627370496), (54, 4503599627370496)] mixed (by kernel_rfl) rfl rfl) | (apply W.draw2 (id := 11) [0, 1, 3, 7, 15, 0, 32, 96, 224, 480, 0, 1024, 4095, 8191, 8191, 32767, 65535] [[0], [57], [58], [59], [60], [0], [62], [63], [64], [65], [4], [67], [61, 66, 68], [69], [69]] 15 [(57, 1), (58, 144115188075855872), (59, 288230376151711744), (60, 576460752303423488), (61, 1152921504606846976), (62, 1), (63, 4611686018427387904), (64, 9223372036854775808), (65, 18446744073709551616), (66, 36893488147419103232), (67, 16), (68, 147573952589676412928), (69, 371240724483404726272), (70, 590295810358705651712), (71, 590295810358705651712)] mixed (by kernel_rfl) rfl rfl) | (refine W.condA (ht := fun hb => ?_) (hf := fun hb => ?_) <;> (try simp at hb) <;> (try (exfalso; omega))))
    all_goals exact FinP.ret 1000000 rfl hI rfl ResM.auto
abbrev Arg (lets : List Let) (en : EnvQ) (l : List Exp) (n : Nat) (j : Nat) (v : PV) (e : Int) : Prop := PCalls Tryz.prog 24 4 (fun b => [.one (.ptr (cellsR lets en b)), aE (nth l j), cI (n : Int)]) (.tup [v, cI e]) (InvR lets en)
theorem v_bad {e : Int} (he : e ≠ 0) (hop : op ≠ 0 ∧ op ≠ 1 ∧ op ≠ 2 ∧ op ≠ 3) (hl : 0 < l.length) (h0 : Arg lets en l n 0 zF0 e) : VCalls lets en 24 [aOp op k u s l, cI (n : Int)] (.err e) := by
  show PCalls Tryz.prog 24 4 (fun b => [.one (.ptr (cellsR lets en b)), aOp op k u s l, cI (n : Int)]) (.tup [zF0, cI e]) (InvR lets en)
  refine PCalls.of_M TYok (z := 4) (qs := [zF0, cI e]) [.cell 6 40, .tmp 7] 167 Tryz.func24 (by kernel_rfl) rfl rfl rfl fun G b rows hI => ?_
  simp only [St.initP, initEnv, Nat.reduceAdd, List.cons_append, List.nil_append]
  repeat' (first | ((first | apply U_ | (apply Ug_; exact rfl; exact rfl) | (apply Ugq_; exact rfl; exact rfl) | apply Lex.u | (apply Lex.g; exact rfl; exact rfl) | (apply Lex.gq; exact rfl; exact rfl)); (first | exact QX.B TYok | exact QX.Nil TYok | exact QX.Idx TYok | exact QX.Ext TYok | exact QX.Build TYok); exact rfl) | refine SX.Alloc TYok (h := ?_) | refine SX.Store TYok (h := ?_) | refine SX.Box TYok (h := ?_) | (apply S_callp (h0) (g := 1000000); exact rfl; exact rfl; exact rfl; exact rfl; (first | assumption | exact ⟨_, rfl, by assumption⟩); exact EvD.auto; intro _ hI2) | refine SC ?_ | (apply S_isnil TYok; exact rfl; exact rfl; exact rfl; exact Ev.auto; intro bn hnil) | (apply RG.gT; exact rfl; exact rfl; (first | assumption | decide)) | (apply RG.gF; exact rfl; exact rfl; (first | assumption | decide | (rw [ne_eq, Bool.not_eq_true]; assumption) | (rw [ne_eq, Bool.not_eq_false]; assumption)); exact rfl) | (apply W.draw2 (id := 9) [0, 1, 3, 7, 15, 0, 32, 96, 224, 480, 0, 1024, 4095, 8191, 8191, 32767, 65535] [[0], [40], [41], [42], [43], [0], [45], [46], [47], [48], [4], [50], [44, 49, 51], [52], [52]] 15 [(40, 1), (41, 1099511627776), (42, 2199023255552), (43, 4398046511104), (44, 8796093022208), (45, 1), (46, 35184372088832), (47, 70368744177664), (48, 140737488355328), (49, 281474976710656), (50, 16), (51, 1125899906842624), (52, 2832341953150976), (53, 4503599627370496), (54, 4503599627370496)] mixed (by kernel_rfl) rfl rfl) | (apply W.draw2 (id := 11) [0, 1, 3, 7, 15, 0, 32, 96, 224, 480, 0, 1024, 4095, 8191, 8191, 32767, 65535] [[0], [57], [58], [59], [60], [0], [62], [63], [64], [65], [4], [67], [61, 66, 68], [69], [69]] 15 [(57, 1), (58, 144115188075855872), (59, 288230376151711744), (60, 576460752303423488), (61, 1152921504606846976), (62, 1), (63, 4611686018427387904), (64, 9223372036854775808), (65, 18446744073709551616), (66, 36893488147419103232), (67, 16), (68, 147573952589676412928), (69, 371240724483404726272), (70, 590295810358705651712), (71, 590295810358705651712)] mixed (by kernel_rfl) rfl rfl) | (refine W.condA (ht := fun hb => ?_) (hf := fun hb => ?_) <;> (try simp at hb) <;> (try (exfalso; omega))))
  all_goals exact FinP.ret 1000000 rfl hI2 rfl (ResM.cell rfl rfl rfl rfl zeroSubF (ResM.tmp rfl rfl PSub.rfl' ResM.nil))
theorem v_not {a : Rat} (hl : 0 < l.length) (h0 : Arg lets en l n 0 (zF a) 0) : VCalls lets en 24 [aOp 12 k u s l, cI (n : Int)] (.ok (one01 (decide (sgn a.num = 0)))) := by
  have t1 := truth_ok (!!decide (sgn a.num = 0))
  rw [show one01 (!!decide (sgn a.num = 0)) = one01 (decide (sgn a.num = 0)) by rw [Bool.not_not]] at t1
  show PCalls Tryz.prog 24 4 (fun b => [.one (.ptr (cellsR lets en b)), aOp 12 k u s l, cI (n : Int)]) (.tup [zF (one01 (decide (sgn a.num = 0))), cI 0]) (InvR lets en)
  generalize one01 (decide (sgn a.num = 0)) = r at *
  refine PCalls.of_M TYok (z := 4) (qs := [zF r, cI 0]) [.cell 6 40, .tmp 7] 167 Tryz.func24 (by kernel_rfl) rfl rfl rfl fun G b rows hI => ?_
  simp only [St.initP, initEnv, Nat.reduceAdd, List.cons_append, List.nil_append]
  repeat' (first | ((first | apply U_ | (apply Ug_; exact rfl; exact rfl) | (apply Ugq_; exact rfl; exact rfl) | apply Lex.u | (apply Lex.g; exact rfl; exact rfl) | (apply Lex.gq; exact rfl; exact rfl)); (first | exact QX.B TYok | exact QX.Nil TYok | exact QX.Idx TYok | exact QX.Ext TYok | exact QX.Build TYok | exact QCd (t1)); exact rfl) | refine SX.Alloc TYok (h := ?_) | refine SX.Store TYok (h := ?_) | refine SX.Box TYok (h := ?_) | (apply S_callp (h0) (g := 1000000); exact rfl; exact rfl; exact rfl; exact rfl; (first | assumption | exact ⟨_, rfl, by assumption⟩); exact EvD.auto; intro _ hI2) | refine SC ?_ | (apply S_isnil TYok; exact rfl; exact rfl; exact rfl; exact Ev.auto; intro bn hnil) | (apply RG.gT; exact rfl; exact rfl; (first | assumption | decide)) | (apply RG.gF; exact rfl; exact rfl; (first | assumption | decide | (rw [ne_eq, Bool.not_eq_true]; assumption) | (rw [ne_eq, Bool.not_eq_false]; assumption)); exact rfl) | (apply W.draw2 (id := 9) [0, 1, 3, 7, 15, 0, 32, 96, 224, 480, 0, 1024, 4095, 8191, 8191, 32767, 65535] [[0], [40], [41], [42], [43], [0], [45], [46], [47], [48], [4], [50], [44, 49, 51], [52], [52]] 15 [(40, 1), (41, 1099511627776), (42, 2199023255552), (43, 4398046511104), (44, 8796093022208), (45, 1), (46, 35184372088832), (47, 70368744177664), (48, 140737488355328), (49, 281474976710656), (50, 16), (51, 1125899906842624), (52, 2832341953150976), (53, 4503599627370496), (54, 4503599627370496)] mixed (by kernel_rfl) rfl rfl) | (apply W.draw2 (id := 11) [0, 1, 3, 7, 15, 0, 32, 96, 224, 480, 0, 1024, 4095, 8191, 8191, 32767, 65535] [[0], [57], [58], [59], [60], [0], [62], [63], [64], [65], [4], [67], [61, 66, 68], [69], [69]] 15 [(57, 1), (58, 144115188075855872), (59, 288230376151711744), (60, 576460752303423488), (61, 1152921504606846976), (62, 1), (63, 4611686018427387904), (64, 9223372036854775808), (65, 18446744073709551616), (66, 36893488147419103232), (67, 16), (68, 147573952589676412928), (69, 371240724483404726272), (70, 590295810358705651712), (71, 590295810358705651712)] mixed (by kernel_rfl) rfl rfl) | (refine W.condA (ht := fun hb => ?_) (hf := fun hb => ?_) <;> (try simp at hb) <;> (try (exfalso; omega))))
  all_goals exact FinP.ret 1000000 rfl hI2 rfl ResM.auto
theorem v_if {a : Rat} {j : Nat} {R : Rs} (hl : l.length = 3) (h0 : Arg lets en l n 0 (zF a) 0) (hj : (sgn a.num = 0 ∧ j = 2) ∨ (sgn a.num ≠ 0 ∧ j = 1)) (h1 : VCalls lets en 24 [aE (nth l j), cI (n : Int)] R) : VCalls lets en 24 [aOp 15 k u s l, cI (n : Int)] R := by
  obtain ⟨x1, x2, x3, x4, hv⟩ := R.v_agg
  replace h1 : PCalls Tryz.prog 24 4 (fun b => [.one (.ptr (cellsR lets en b)), aE (nth l j), cI (n : Int)]) (.tup [R.v, cI R.e]) (InvR lets en) := h1
  show PCalls Tryz.prog 24 4 (fun b => [.one (.ptr (cellsR lets en b)), aOp 15 k u s l, cI (n : Int)]) (.tup [R.v, cI R.e]) (InvR lets en)
  rw [hv] at h1 ⊢
  generalize R.e = e at *
  rcases hj with ⟨hz, rfl⟩ | ⟨hz, rfl⟩
  · skip
    refine PCalls.of_M TYok (z := 4) (qs := [.agg [.int .i64 x1, .sl (x2.map Lf.encI), .int .i64 x3, .sl (x4.map Lf.encI)], cI e]) [.cell 6 40, .tmp 7] 167 Tryz.func24 (by kernel_rfl) rfl rfl rfl fun G b rows hI => ?_
    simp only [St.initP, initEnv, Nat.reduceAdd, List.cons_append, List.nil_append]
    repeat' (first | ((first | apply U_ | (apply Ug_; exact rfl; exact rfl) | (apply Ugq_; exact rfl; exact rfl) | apply Lex.u | (apply Lex.g; exact rfl; exact rfl) | (apply Lex.gq; exact rfl; exact rfl)); (first | exact QX.B TYok | exact QX.Nil TYok | exact QX.Idx TYok | exact QX.Ext TYok | exact QX.Build TYok); exact rfl) | refine SX.Alloc TYok (h := ?_) | refine SX.Store TYok (h := ?_) | refine SX.Box TYok (h := ?_) | (apply S_callp (h0) (g := 1000000); exact rfl; exact rfl; exact rfl; exact rfl; (first | assumption | exact ⟨_, rfl, by assumption⟩); exact EvD.auto; intro _ hI2) | (apply S_callp (h1) (g := 1000000); exact rfl; exact rfl; exact rfl; exact rfl; (first | assumption | exact ⟨_, rfl, by assumption⟩); exact EvD.auto; intro _ hI3) | refine SC ?_ | (apply S_isnil TYok; exact rfl; exact rfl; exact rfl; exact Ev.auto; intro bn hnil) | (apply RG.gT; exact rfl; exact rfl; (first | assumption | decide)) | (apply RG.gF; exact rfl; exact rfl; (first | assumption | decide | (rw [ne_eq, Bool.not_eq_true]; assumption) | (rw [ne_eq, Bool.not_eq_false]; assumption)); exact rfl) | (apply W.draw2 (id := 9) [0, 1, 3, 7, 15, 0, 32, 96, 224, 480, 0, 1024, 4095, 8191, 8191, 32767, 65535] [[0], [40], [41], [42], [43], [0], [45], [46], [47], [48], [4], [50], [44, 49, 51], [52], [52]] 15 [(40, 1), (41, 1099511627776), (42, 2199023255552), (43, 4398046511104), (44, 8796093022208), (45, 1), (46, 35184372088832), (47, 70368744177664), (48, 140737488355328), (49, 281474976710656), (50, 16), (51, 1125899906842624), (52, 2832341953150976), (53, 4503599627370496), (54, 4503599627370496)] mixed (by kernel_rfl) rfl rfl) | (apply W.draw2 (id := 11) [0, 1, 3, 7, 15, 0, 32, 96, 224, 480, 0, 1024, 4095, 8191, 8191, 32767, 65535] [[0], [57], [58], [59], [60], [0], [62], [63], [64], [65], [4], [67], [61, 66, 68], [69], [69]] 15 [(57, 1), (58, 144115188075855872), (59, 288230376151711744), (60, 576460752303423488), (61, 1152921504606846976), (62, 1), (63, 4611686018427387904), (64, 9223372036854775808), (65, 18446744073709551616), (66, 36893488147419103232), (67, 16), (68, 147573952589676412928), (69, 371240724483404726272), (70, 590295810358705651712), (71, 590295810358705651712)] mixed (by kernel_rfl) rfl rfl) | (refine W.condA (ht := fun hb => ?_) (hf := fun hb => ?_) <;> (try simp at hb) <;> (try (exfalso; omega))))
    all_goals exact FinP.ret 1000000 rfl hI3 rfl ResM.auto
  · skip
    refine PCalls.of_M TYok (z := 4) (qs := [.agg [.int .i64 x1, .sl (x2.map Lf.encI), .int .i64 x3, .sl (x4.map Lf.encI)], cI e]) [.cell 6 40, .tmp 7] 167 Tryz.func24 (by kernel_rfl) rfl rfl rfl fun G b rows hI => ?_
    simp only [St.initP, initEnv, Nat.reduceAdd, List.cons_append, List.nil_append]
    repeat' (first | ((first | apply U_ | (apply Ug_; exact rfl; exact rfl) | (apply Ugq_; exact rfl; exact rfl) | apply Lex.u | (apply Lex.g; exact rfl; exact rfl) | (apply Lex.gq; exact rfl; exact rfl)); (first | exact QX.B TYok | exact QX.Nil TYok | exact QX.Idx TYok | exact QX.Ext TYok | exact QX.Build TYok); exact rfl) | refine SX.Alloc TYok (h := ?_) | refine SX.Store TYok (h := ?_) | refine SX.Box TYok (h := ?_) | (apply S_callp (h0) (g := 1000000); exact rfl; exact rfl; exact rfl; exact rfl; (first | assumption | exact ⟨_, rfl, by assumption⟩); exact EvD.auto; intro _ hI2) | (apply S_callp (h1) (g := 1000000); exact rfl; exact rfl; exact rfl; exact rfl; (first | assumption | exact ⟨_, rfl, by assumption⟩); exact EvD.auto; intro _ hI3) | refine SC ?_ | (apply S_isnil TYok; exact rfl; exact rfl; exact rfl; exact Ev.auto; intro bn hnil) | (apply RG.gT; exact rfl; exact rfl; (first | assumption | decide)) | (apply RG.gF; exact rfl; exact rfl; (first | assumption | decide | (rw [ne_eq, Bool.not_eq_true]; assumption) | (rw [ne_eq, Bool.not_eq_false]; assumption)); exact rfl) | (apply W.draw2 (id := 9) [0, 1, 3, 7, 15, 0, 32, 96, 224, 480, 0, 1024, 4095, 8191, 8191, 32767, 65535] [[0], [40], [41], [42], [43], [0], [45], [46], [47], [48], [4], [50], [44, 49, 51], [52], [52]] 15 [(40, 1), (41, 1099511627776), (42, 2199023255552), (43, 4398046511104), (44, 8796093022208), (45, 1), (46, 35184372088832), (47, 70368744177664), (48, 140737488355328), (49, 281474976710656), (50, 16), (51, 1125899906842624), (52, 2832341953150976), (53, 4503599627370496), (54, 4503599627370496)] mixed (by kernel_rfl) rfl rfl) | (apply W.draw2 (id := 11) [0, 1, 3, 7, 15, 0, 32, 96, 224, 480, 0, 1024, 4095, 8191, 8191, 32767, 65535] [[0], [57], [58], [59], [60], [0], [62], [63], [64], [65], [4], [67], [61, 66, 68], [69], [69]] 15 [(57, 1), (58, 144115188075855872), (59, 288230376151711744), (60, 576460752303423488), (61, 1152921504606846976), (62, 1), (63, 4611686018427387904), (64, 9223372036854775808), (65, 18446744073709551616), (66, 36893488147419103232), (67, 16), (68, 147573952589676412928), (69, 371240724483404726272), (70, 590295810358705651712), (71, 590295810358705651712)] mixed (by kernel_rfl) rfl rfl) | (refine W.condA (ht := fun hb => ?_) (hf := fun hb => ?_) <;> (try simp at hb) <;> (try (exfalso; omega))))
    all_goals exact FinP.ret 1000000 rfl hI3 rfl ResM.auto
theorem v_short {a : Rat} (hl : l.length = 2) (h0 : Arg lets en l n 0 (zF a) 0) (hop : (op = 13 ∧ sgn a.num = 0) ∨ (op = 14 ∧ sgn a.num ≠ 0)) : VCalls lets en 24 [aOp op k u s l, cI (n : Int)] (.ok (one01 (!decide (sgn a.num = 0)))) := by
  have t1 := truth_ok (!decide (sgn a.num = 0))
  show PCalls Tryz.prog 24 4 (fun b => [.one (.ptr (cellsR lets en b)), aOp op k u s l, cI (n : Int)]) (.tup [zF (one01 (!decide (sgn a.num = 0))), cI 0]) (InvR lets en)
  generalize one01 (!decide (sgn a.num = 0)) = r at *
  rcases hop with ⟨rfl, hz⟩ | ⟨rfl, hz⟩
  · skip
    refine PCalls.of_M TYok (z := 4) (qs := [zF r, cI 0]) [.cell 6 40, .tmp 7] 167 Tryz.func24 (by kernel_rfl) rfl rfl rfl fun G b rows hI => ?_
    simp only [St.initP, initEnv, Nat.reduceAdd, List.cons_append, List.nil_append]
    repeat' (first | ((first | apply U_ | (apply Ug_; exact rfl; exact rfl) | (apply Ugq_; exact rfl; exact rfl) | apply Lex.u | (apply Lex.g; exact rfl; exact rfl) | (apply Lex.gq; exact rfl; exact rfl)); (first | exact QX.B TYok | exact QX.Nil TYok | exact QX.Idx TYok | exact QX.Ext TYok | exact QX.Build TYok | exact QCd (t1)); exact rfl) | refine SX.Alloc TYok (h := ?_) | refine SX.Store TYok (h := ?_) | refine SX.Box TYok (h := ?_) | (apply S_callp (h0) (g := 1000000); exact rfl; exact rfl; exact rfl; exact rfl; (first | assumption | exact ⟨_, rfl, by assumption⟩); exact EvD.auto; intro _ hI2) | refine SC ?_ | (apply S_isnil TYok; exact rfl; exact rfl; exact rfl; exact Ev.auto; intro bn hnil) | (apply RG.gT; exact rfl; exact rfl; (first | assumption | decide)) | (apply RG.gF; exact rfl; exact rfl; (first | assumption | decide | (rw [ne_eq, Bool.not_eq_true]; assumption) | (rw [ne_eq, Bool.not_eq_false]; assumption)); exact rfl) | (apply W.draw2 (id := 9) [0, 1, 3, 7, 15, 0, 32, 96, 224, 480, 0, 1024, 4095, 8191, 8191, 32767, 65535] [[0], [40], [41], [42], [43], [0], [45], [46], [47], [48], [4], [50], [44, 49, 51], [52], [52]] 15 [(40, 1), (41, 1099511627776), (42, 2199023255552), (43, 4398046511104), (44, 8796093022208), (45, 1), (46, 35184372088832), (47, 70368744177664), (48, 140737488355328), (49, 281474976710656), (50, 16), (51, 1125899906842624), (52, 2832341953150976), (53, 4503599627370496), (54, 4503599627370496)] mixed (by kernel_rfl) rfl rfl) | (apply W.draw2 (id := 11) [0, 1, 3, 7, 15, 0, 32, 96, 224, 480, 0, 1024, 4095, 8191, 8191, 32767, 65535] [[0], [57], [58], [59], [60], [0], [62], [63], [64], [65], [4], [67], [61, 66, 68], [69], [69]] 15 [(57, 1), (58, 144115188075855872), (59, 288230376151711744), (60, 576460752303423488), (61, 1152921504606846976), (62, 1), (63, 4611686018427387904), (64, 9223372036854775808), (65, 18446744073709551616), (66, 36893488147419103232), (67, 16), (68, 147573952589676412928), (69, 371240724483404726272), (70, 590295810358705651712), (71, 590295810358705651712)] mixed (by kernel_rfl) rfl rfl) | (refine W.condA (ht := fun hb => ?_) (hf := fun hb => ?_) <;> (try simp at hb) <;> (try (exfalso; omega))))
    all_goals exact FinP.ret 1000000 rfl hI2 rfl ResM.auto
  · skip
    refine PCalls.of_M TYok (z := 4) (qs := [zF r, cI 0]) [.cell 6 40, .tmp 7] 167 Tryz.func24 (by kernel_rfl) rfl rfl rfl fun G b rows hI => ?_
    simp only [St.initP, initEnv, Nat.reduceAdd, List.cons_append, List.nil_append]
    repeat' (first | ((first | apply U_ | (apply Ug_; exact rfl; exact rfl) | (apply Ugq_; exact rfl; exact rfl) | apply Lex.u | (apply Lex.g; exact rfl; exact rfl) | (apply Lex.gq; exact rfl; exact rfl)); (first | exact QX.B TYok | exact QX.Nil TYok | exact QX.Idx TYok | exact QX.Ext TYok | exact QX.Build TYok | exact QCd (t1)); exact rfl) | refine SX.Alloc TYok (h := ?_) | refine SX.Store TYok (h := ?_) | refine SX.Box TYok (h := ?_) | (apply S_callp (h0) (g := 1000000); exact rfl; exact rfl; exact rfl; exact rfl; (first | assumption | exact ⟨_, rfl, by assumption⟩); exact EvD.auto; intro _ hI2) | refine SC ?_ | (apply S_isnil TYok; exact rfl; exact rfl; exact rfl; exact Ev.auto; intro bn hnil) | (apply RG.gT; exact rfl; exact rfl; (first | assumption | decide)) | (apply RG.gF; exact rfl; exact rfl; (first | assumption | decide | (rw [ne_eq, Bool.not_eq_true]; assumption) | (rw [ne_eq, Bool.not_eq_false]; assumption)); exact rfl) | (apply W.draw2 (id := 9) [0, 1, 3, 7, 15, 0, 32, 96, 224, 480, 0, 1024, 4095, 8191, 8191, 32767, 65535] [[0], [40], [41], [42], [43], [0], [45], [46], [47], [48], [4], [50], [44, 49, 51], [52], [52]] 15 [(40, 1), (41, 1099511627776), (42, 2199023255552), (43, 4398046511104), (44, 8796093022208), (45, 1), (46, 35184372088832), (47, 70368744177664), (48, 140737488355328), (49, 281474976710656), (50, 16), (51, 1125899906842624), (52, 2832341953150976), (53, 4503599627370496), (54, 4503599627370496)] mixed (by kernel_rfl) rfl rfl) | (apply W.draw2 (id := 11) [0, 1, 3, 7, 15, 0, 32, 96, 224, 480, 0, 1024, 4095, 8191, 8191, 32767, 65535] [[0], [57], [58], [59], [60], [0], [62], [63], [64], [65], [4], [67], [61, 66, 68], [69], [69]] 15 [(57, 1), (58, 144115188075855872), (59, 288230376151711744), (60, 576460752303423488), (61, 1152921504606846976), (62, 1), (63, 4611686018427387904), (64, 9223372036854775808), (65, 18446744073709551616), (66, 36893488147419103232), (67, 16), (68, 147573952589676412928), (69, 371240724483404726272), (70, 590295810358705651712), (71, 590295810358705651712)] mixed (by kernel_rfl) rfl rfl) | (refine W.condA (ht := fun hb => ?_) (hf := fun hb => ?_) <;> (try simp at hb) <;> (try (exfalso; omega))))
    all_goals exact FinP.ret 1000000 rfl hI2 rfl ResM.auto
theorem v_bad1 {a : Rat} {e : Int} (he : e ≠ 0) (hop : op ≠ 0 ∧ op ≠ 1 ∧ op ≠ 2 ∧ op ≠ 3 ∧ op ≠ 12 ∧ op ≠ 15) (hs : ¬ (op = 13 ∧ sgn a.num = 0) ∧ ¬ (op = 14 ∧ sgn a.num ≠ 0)) (hl : l.length = 2) (h0 : Arg lets en l n 0 (zF a) 0) (h1 : Arg lets en l n 1 zF0 e) : VCalls lets en 24 [aOp op k u s l, cI (n : Int)] (.err e) := by
  show PCalls Tryz.prog 24 4 (fun b => [.one (.ptr (cellsR lets en b)), aOp op k u s l, cI (n : Int)]) (.tup [zF0, cI e]) (InvR lets en)
  refine PCalls.of_M TYok (z := 4) (qs := [zF0, cI e]) [.cell 6 40, .tmp 7] 167 Tryz.func24 (by kernel_rfl) rfl rfl rfl fun G b rows hI => ?_
  simp only [St.initP, initEnv, Nat.reduceAdd, List.cons_append, List.nil_append]
  repeat' (first | ((first | apply U_ | (apply Ug_; exact rfl; exact rfl) | (apply Ugq_; exact rfl; exact rfl) | apply Lex.u | (apply Lex.g; exact rfl; exact rfl) | (apply Lex.gq; exact rfl; exact rfl)); (first | exact QX.B TYok | exact QX.Nil TYok | exact QX.Idx TYok | exact QX.Ext TYok | exact QX.Build TYok); exact rfl) | refine SX.Alloc TYok (h := ?_) | refine SX.Store TYok (h := ?_) | refine SX.Box TYok (h := ?_) | (apply S_callp (h0) (g := 1000000); exact rfl; exact rfl; exact rfl; exact rfl; (first | assumption | exact ⟨_, rfl, by assumption⟩); exact EvD.auto; intro _ hI2) | (apply S_callp (h1) (g := 1000000); exact rfl; exact rfl; exact rfl; exact rfl; (first | assumption | exact ⟨_, rfl, by assumption⟩); exact EvD.auto; intro _ hI3) | refine SC ?_ | (apply S_isnil TYok; exact rfl; exact rfl; exact rfl; exact Ev.auto; intro bn hnil) | (apply RG.gT; exact rfl; exact rfl; (first | assumption | decide)) | (apply RG.gF; exact rfl; exact rfl; (first | assumption | decide | (rw [ne_eq, Bool.not_eq_true]; assumption) | (rw [ne_eq, Bool.not_eq_false]; assumption)); exact rfl) | (apply W.draw2 (id := 9) [0, 1, 3, 7, 15, 0, 32, 96, 224, 480, 0, 1024, 4095, 8191, 8191, 32767, 65535] [[0], [40], [41], [42], [43], [0], [45], [46], [47], [48], [4], [50], [44, 49, 51], [52], [52]] 15 [(40, 1), (41, 1099511627776), (42, 2199023255552), (43, 4398046511104), (44, 8796093022208), (45, 1), (46, 35184372088832), (47, 70368744177664), (48, 140737488355328), (49, 281474976710656), (50, 16), (51, 1125899906842624), (52, 2832341953150976), (53, 4503599627370496), (54, 4503599627370496)] mixed (by kernel_rfl) rfl rfl) | (apply W.draw2 (id := 11) [0, 1, 3, 7, 15, 0, 32, 96, 224, 480, 0, 1024, 4095, 8191, 8191, 32767, 65535] [[0], [57], [58], [59], [60], [0], [62], [63], [64], [65], [4], [67], [61, 66, 68], [69], [69]] 15 [(57, 1), (58, 144115188075855872), (59, 288230376151711744), (60, 576460752303423488), (61, 1152921504606846976), (62, 1), (63, 4611686018427387904), (64, 9223372036854775808), (65, 18446744073709551616), (66, 36893488147419103232), (67, 16), (68, 147573952589676412928), (69, 371240724483404726272), (70, 590295810358705651712), (71, 590295810358705651712)] mixed (by kernel_rfl) rfl rfl) | (refine W.condA (ht := fun hb => ?_) (hf := fun hb => ?_) <;> (try simp at hb) <;> (try (exfalso; omega))))
  all_goals exact FinP.ret 1000000 rfl hI3 rfl (ResM.cell rfl rfl rfl rfl zeroSubF (ResM.tmp rfl rfl PSub.rfl' ResM.nil))
theorem v_two {a c : Rat} {R : Rs} (hop : op ≠ 0 ∧ op ≠ 1 ∧ op ≠ 2 ∧ op ≠ 3 ∧ op ≠ 12 ∧ op ≠ 15) (hs : ¬ (op = 13 ∧ sgn a.num = 0) ∧ ¬ (op = 14 ∧ sgn a.num ≠ 0)) (hl : l.length = 2) (h0 : Arg lets en l n 0 (zF a) 0) (h1 : Arg lets en l n 1 (zF c) 0) (hbin : ACalls Tryz.prog 47 [cI op, zF a, zF c] (resP R)) : VCalls lets en 24 [aOp op k u s l, cI (n : Int)] R := by
  obtain ⟨x1, x2, x3, x4, hv⟩ := R.v_agg
  unfold resP at hbin
  show PCalls Tryz.prog 24 4 (fun b => [.one (.ptr (cellsR lets en b)), aOp op k u s l, cI (n : Int)]) (.tup [R.v, cI R.e]) (InvR lets en)
  rw [hv] at hbin ⊢
  generalize R.e = e at *
  refine PCalls.of_M TYok (z := 4) (qs := [.agg [.int .i64 x1, .sl (x2.map Lf.encI), .int .i64 x3, .sl (x4.map Lf.encI)], cI e]) [.cell 6 40, .tmp 7] 167 Tryz.func24 (by kernel_rfl) rfl rfl rfl fun G b rows hI => ?_
  simp only [St.initP, initEnv, Nat.reduceAdd, List.cons_append, List.nil_append]
  repeat' (first | ((first | apply U_ | (apply Ug_; exact rfl; exact rfl) | (apply Ugq_; exact rfl; exact rfl) | apply Lex.u | (apply Lex.g; exact rfl; exact rfl) | (apply Lex.gq; exact rfl; exact rfl)); (first | exact QX.B TYok | exact QX.Nil TYok | exact QX.Idx TYok | exact QX.Ext TYok | exact QX.Build TYok | exact QCd (hbin)); exact rfl) | refine SX.Alloc TYok (h := ?_) | refine SX.Store TYok (h := ?_) | refine SX.Box TYok (h := ?_) | (apply S_callp (h0) (g := 1000000); exact rfl; exact rfl; exact rfl; exact rfl; (first | assumption | exact ⟨_, rfl, by assumption⟩); exact EvD.auto; intro _ hI2) | (apply S_callp (h1) (g := 1000000); exact rfl; exact rfl; exact rfl; exact rfl; (first | assumption | exact ⟨_, rfl, by assumption⟩); exact EvD.auto; intro _ hI3) | refine SC ?_ | (apply S_isnil TYok; exact rfl; exact rfl; exact rfl; exact Ev.auto; intro bn hnil) | (apply RG.gT; exact rfl; exact rfl; (first | assumption | decide)) | (apply RG.gF; exact rfl; exact rfl; (first | assumption | decide | (rw [ne_eq, Bool.not_eq_true]; assumption) | (rw [ne_eq, Bool.not_eq_false]; assumption)); exact rfl) | (apply W.draw2 (id := 9) [0, 1, 3, 7, 15, 0, 32, 96, 224, 480, 0, 1024, 4095, 8191, 8191, 32767, 65535] [[0], [40], [41], [42], [43], [0], [45], [46], [47], [48], [4], [50], [44, 49, 51], [52], [52]] 15 [(40, 1), (41, 1099511627776), (42, 2199023255552), (43, 4398046511104), (44, 8796093022208), (45, 1), (46, 35184372088832), (47, 70368744177664), (48, 140737488355328), (49, 281474976710656), (50, 16), (51, 1125899906842624), (52, 2832341953150976), (53, 4503599627370496), (54, 4503599627370496)] mixed (by kernel_rfl) rfl rfl) | (apply W.draw2 (id := 11) [0, 1, 3, 7, 15, 0, 32, 96, 224, 480, 0, 1024, 4095, 8191, 8191, 32767, 65535] [[0], [57], [58], [59], [60], [0], [62], [63], [64], [65], [4], [67], [61, 66, 68], [69], [69]] 15 [(57, 1), (58, 144115188075855872), (59, 288230376151711744), (60, 576460752303423488), (61, 1152921504606846976), (62, 1), (63, 4611686018427387904), (64, 9223372036854775808), (65, 18446744073709551616), (66, 36893488147419103232), (67, 16), (68, 147573952589676412928), (69, 371240724483404726272), (70, 590295810358705651712), (71, 590295810358705651712)] mixed (by kernel_rfl) rfl rfl) | (refine W.condA (ht := fun hb => ?_) (hf := fun hb => ?_) <;> (try simp at hb) <;> (try (exfalso; omega))))
  all_goals exact FinP.ret 1000000 rfl hI3 rfl ResM.auto
theorem value_ok (hL : LetsOk lets) (he : en.Ok) : ∀ (n : Nat), n ≤ lets.length → ∀ (d : Nat) (e : Exp), rightF d e = true → tempF e = false → OkE e → VCalls lets en 24 [aE e, cI (n : Int)] (valF lets en n e) := by
  intro n
  induction n using Nat.strongRecOn with
  | _ n ihn =>
  intro hn d
  induction d with
  | zero => intro e hr; obtain ⟨op, k, u, s, l⟩ := e; rw [rightF] at hr; cases hr
  | succ d ih =>
  intro e hr ht hok
  obtain ⟨op, k, u, s, l⟩ := e
  cases hok with
  | mk hs hl hx =>
  rw [aE_mk, valF, evF_mk]
  have fit : ∀ x, rightF d x = true ∧ tempF x = false → (valF lets en n x).fit := fun x h => evF_fit he (tabF_fit he hL n hn) d x h.1 h.2
  unfold stepF
  rcases stat_cases hr ht with ⟨rfl, rfl, hk⟩ | ⟨rfl, rfl⟩ | ⟨rfl, rfl⟩ | ⟨rfl, rfl⟩ | ⟨h1, h2⟩
  · rw [if_pos rfl]
    refine v_num _ ?_
    split
    · exact Of_ok k 1000 hk (by unfold i64B; omega) (by omega)
    · exact Of_ok k 1 hk (by unfold i64B; omega) (by omega)
  · rw [if_neg (by omega), if_pos rfl]
    refine v_name _ (vname_ok hL he n hn s fun i hi => ?_)
    have hy := hL.2 _ (nth_mem (show i < lets.length by omega))
    have hst := statF_yes hy.1
    exact ihn i hi (by omega) 12 _ hst.1 hst.2 hy.2
  · rw [if_neg (by omega), if_neg (by omega), if_pos rfl]
    exact v_look _ (.inl ⟨rfl, rfl⟩) he
  · rw [if_neg (by omega), if_neg (by omega), if_neg (by omega), if_pos rfl]
    exact v_look _ (.inr ⟨rfl, rfl⟩) he
  · rw [if_neg (by omega), if_neg (by omega), if_neg (by omega), if_neg (by omega)]
    have arg : ∀ j, j < l.length → VCalls lets en 24 [aE (nth l j), cI (n : Int)] (nth (l.map (evF lets en (tabF lets en n))) j) ∧ (nth (l.map (evF lets en (tabF lets en n))) j).fit := fun j hj => by
      rw [nth_map2 hj]
      have hm := nth_mem hj
      exact ⟨ih _ (h2 _ hm).1 (h2 _ hm).2 (hx _ hm), fit _ (h2 _ hm)⟩
    generalize l.map (evF lets en (tabF lets en n)) = A at *
    obtain ⟨g0, f0⟩ := arg 0 (by omega)
    cases h0 : nth A 0 with
    | err e => rw [h0] at g0 f0; exact v_bad f0 (by omega) (by omega) g0
    | ok a =>
      rw [h0] at g0 f0
      dsimp only
      by_cases h12 : op = 12
      · subst h12
        rw [if_pos rfl]
        exact v_not (by omega) g0
      rw [if_neg h12]
      by_cases h15 : op = 15
      · subst h15
        rw [if_pos rfl]
        split
        · rename_i hz
          exact v_if (by omega) g0 (.inl ⟨hz, rfl⟩) (arg 2 (by omega)).1
        · rename_i hz
          exact v_if (by omega) g0 (.inr ⟨hz, rfl⟩) (arg 1 (by omega)).1
      rw [if_neg h15]
      split
      · rename_i hz
        exact v_short (by omega) g0 hz
      · rename_i hz
        obtain ⟨g1, f1⟩ := arg 1 (by omega)
        cases h1' : nth A 1 with
        | err e => rw [h1'] at g1 f1; exact v_bad1 f1 (by omega) (by omega) (by omega) g0 g1
        | ok c => rw [h1'] at g1 f1; exact v_two (by omega) (by omega) (by omega) g0 g1 (binary_ok op f0 f1 (by omega))
end
end Go.Proofs.YtjedkgogjehigaaGreat
end
section
set_option linter.unusedVariables false
set_option linter.unusedSimpArgs false
set_option maxHeartbeats 8000000
set_option linter.unusedSectionVars false
namespace Go.Proofs.YtjedkgogjehigaaGreat
open Lf Go
attribute [local irreducible] PureOp EffOp Ev RG W Then InBlock Lf.Fin nth App InitE Pick SubE EvL EvD EvP EvR ResL Lf.Lex SubR SubBR EvC FinO FinM ResM ResD FinS val pw digs trimL
section
abbrev xV (lets : List Let) : PV := .agg [.str [], .str [], .int .i64 0, .int .i64 0, .int .i64 0, .int .i64 0, .int .i64 0, .int .i64 0, .int .i64 0, .int .i64 0, .sl (lets.map encL), .int .i64 0, .int .i64 0, .int .i64 0, .str [], .slnil, .int .i64 0, .slnil, .slnil, .int .i64 0, .slnil, .int .i64 0, .int .i64 0, .int .i64 0, .int .i64 0]
abbrev vV (v : EnvV) : PV := .agg (encEnv v)
def EnvQ.V (en : EnvQ) : EnvV := ⟨en.names, en.vals.map fqOf, en.iss, en.rates.map fqOf⟩
/-- what Value asks for -/
def askF (lets : List Let) (e : Exp) (v : EnvV) : Bool := (statF e && decide (lets.length ≤ 20)) && (!(lets.any fun y => !statF y.body) && validF v)
structure LIn (lets : List Let) : Prop where
  len : lets.length ≤ 9223372036854775807
  ok : ∀ y ∈ lets, OkE y.body
theorem lets_ok {lets : List Let} (h : LIn lets) (h1 : lets.length ≤ 20) (h2 : (lets.any fun y => !statF y.body) = false) : LetsOk lets := by
  refine ⟨h1, fun y hy => ⟨?_, h.ok y hy⟩⟩
  cases hs : statF y.body with
  | true => rfl
  | false =>
    rw [List.any_eq_true.2 ⟨y, hy, by rw [hs]; rfl⟩] at h2
    cases h2
theorem lets_any {lets : List Let} (h : LetsOk lets) : (lets.any fun y => !statF y.body) = false := by
  cases hs : lets.any fun y => !statF y.body with
  | false => rfl
  | true =>
    obtain ⟨y, hy, h2⟩ := List.any_eq_true.1 hs
    rw [(h.2 y hy).1] at h2
    cases h2
theorem env_q {v : EnvV} (hv : v.Len) (h : validF v = true) : ∃ en : EnvQ, en.Ok ∧ v = en.V := by
  unfold validF at h
  simp only [Bool.and_eq_true, decide_eq_true_iff, Bool.not_eq_true'] at h
  obtain ⟨⟨⟨h1, h2⟩, h3⟩, h4⟩ := h
  obtain ⟨V, o1, e1⟩ := rats h3
  obtain ⟨R, o2, e2⟩ := rats h4
  obtain ⟨N, vs, I, rs⟩ := v
  simp only at e1 e2 h1 h2
  subst e1 e2
  exact ⟨⟨N, V, I, R⟩, ⟨o1, o2, by simp at h1; show N.length = V.length; omega, by simp at h2; show I.length = R.length; omega, hv.h1, hv.h3⟩, rfl⟩
variable {lets : List Let} {e : Exp} {v : EnvV}
theorem value_arg (hl : LIn lets) (he : OkE e) (hv : v.Len) (h : askF lets e v = false) : ACalls Tryz.prog 7 [xV lets, aE e, vV v] (.tup [zF0, cI 1]) := by
  have s1 := stat_ok e he
  have s2 := containsL_ok lets 22 [] (fun y => !statF y.body) hl.len (fun y hy => badL_ok y (hl.ok y hy))
  have s3 := valid_ok v hv
  have hbad : ∀ b : Prop, ((statF e = true ∧ (lets.length : Int) ≤ 20) ∧ (lets.any fun y => !statF y.body) = false) ∧ validF v = true → False := fun _ q => by
    unfold askF at h
    rw [q.1.1.1, decide_eq_true (by omega), q.1.2, q.2] at h
    cases h
  obtain ⟨op, k, u, s, l⟩ := e
  obtain ⟨N, V, I, R⟩ := v
  clear h
  generalize statF (.mk op k u s l) = b1 at *
  generalize (lets.any fun y => !statF y.body) = b2 at *
  generalize validF ⟨N, V, I, R⟩ = b3 at *
  have hbad := hbad True
  refine ACalls.of_M TYok (qs := [zF0, cI 1]) [.cell 6 40, .tmp 7] 63 Tryz.func7 (by kernel_rfl) rfl rfl rfl fun G => ?_
  refine W.initA (hw := ?_)
  repeat' (first | ((first | apply U_ | (apply Ug_; exact rfl; exact rfl) | (apply Ugq_; exact rfl; exact rfl) | apply Lex.u | (apply Lex.g; exact rfl; exact rfl) | (apply Lex.gq; exact rfl; exact rfl)); (first | exact QX.B TYok | exact QX.Len TYok | exact QX.Ext TYok | exact QX.Build TYok | exact QCd (s1) | exact QCd (s2) | exact QCd (s3)); exact rfl) | refine SX.Alloc TYok (h := ?_) | refine SX.Store TYok (h := ?_) | refine SX.Box TYok (h := ?_) | refine SC ?_ | (apply RG.gT; exact rfl; exact rfl; (first | assumption | decide)) | (apply RG.gF; exact rfl; exact rfl; (first | assumption | decide | (rw [ne_eq, Bool.not_eq_true]; assumption) | (rw [ne_eq, Bool.not_eq_false]; assumption)); exact rfl) | (apply W.draw2 (id := 7) [0, 1, 3, 7, 0, 16, 48, 127, 127, 383, 1023, 2047, 4095, 8191] [[9], [50], [51], [52], [9], [54], [55], [56], [9], [58]] 10 [(50, 512), (51, 1125899906842624), (52, 2251799813685248), (53, 4503599627370496), (54, 512), (55, 18014398509481984), (56, 36028797018963968), (57, 72057594037927936), (58, 512), (59, 288230376151711744)] mixed (by kernel_rfl) rfl rfl) | (refine W.condA (ht := fun hb => ?_) (hf := fun hb => ?_) <;> (try simp at hb) <;> (try (exfalso; first | exact hbad hb | omega))))
  all_goals first
    | exact FinM.ret (ResM.cell rfl rfl rfl rfl zeroSubF (ResM.tmp rfl rfl PSub.rfl' ResM.nil))
    | trace_state
theorem validF_q {en : EnvQ} (he : en.Ok) : validF en.V = true := by
  have any : ∀ {L : List Rat}, (∀ r ∈ L, okF r) → ((L.map fqOf).any fun q => !q.right) = false := fun {L} h => by
    cases hs : (L.map fqOf).any fun q => !q.right with
    | false => rfl
    | true =>
      obtain ⟨q, hq, h2⟩ := List.any_eq_true.1 hs
      obtain ⟨r, hr, rfl⟩ := List.mem_map.1 hq
      have hp := den_pos r
      have hr' := h r hr
      have e : (fqOf r).right = true := by
        unfold Fq.right fqOf rightFB
        have c := sgn_cases r.den
        rw [num_right hr'.1, num_right hr'.2, decide_eq_true (show sgn r.den = 1 by omega), val_mag, val_mag, sgn_mag, show mag r.den = r.den by omega, num_den_gcd]; rfl
      rw [e] at h2
      cases h2
  unfold validF EnvQ.V
  simp only
  rw [any he.v, any he.r, decide_eq_true (by simp [he.l1]), decide_eq_true (by simp [he.l2])]
  rfl
theorem envq_len {en : EnvQ} (he : en.Ok) : en.V.Len := by
  have ok : ∀ {L : List Rat}, (∀ r ∈ L, okF r) → ∀ q ∈ L.map fqOf, FqOk q := fun {L} h q hq => by
    obtain ⟨r, hr, rfl⟩ := List.mem_map.1 hq
    have h1 := num_len (h r hr).1
    have h2 := num_len (h r hr).2
    exact ⟨by show (digs (mag r.num)).length ≤ _; omega, by show (digs (mag r.den)).length ≤ _; omega⟩
  have := he.l1
  have := he.l2
  have := he.b1
  have := he.b2
  exact ⟨he.b1, by show (en.vals.map fqOf).length ≤ _; rw [List.length_map]; omega, he.b2, by show (en.rates.map fqOf).length ≤ _; rw [List.length_map]; omega, ok he.v, ok he.r⟩
theorem vV_q (en : EnvQ) : vV en.V = .agg [.sl (en.names.map encS), .sl (en.vals.map encQ), .sl (en.iss.map encS), .sl (en.rates.map encQ)] := by
  show PV.agg [_, .sl ((en.vals.map fqOf).map encF), _, .sl ((en.rates.map fqOf).map encF)] = _
  rw [slF_of, slF_of]; rfl
theorem invR_nil {lets : List Let} {en : EnvQ} : InvR lets en [] := ⟨[], rfl, fun k v h => by simp [mget] at h⟩
theorem valF_fit {lets : List Let} {en : EnvQ} {e : Exp} (hL : LetsOk lets) (he : en.Ok) (hst : statF e = true) : (valF lets en lets.length e).fit :=
  evF_fit he (tabF_fit he hL lets.length (Nat.le_refl _)) 12 e (statF_yes hst).1 (statF_yes hst).2
attribute [local irreducible] sgn mag gcdZ quoZ remZ fullZ fullE
theorem value_yes {en : EnvQ} (hL : LetsOk lets) (he : en.Ok) (hst : statF e = true) (hoe : OkE e) : ACalls Tryz.prog 7 [xV lets, aE e, vV en.V] (resP (valF lets en lets.length e)) := by
  have s1 := stat_ok e hoe
  have hlen := hL.1
  have s2 := containsL_ok lets 22 [] (fun y => !statF y.body) (by omega) (fun y hy => badL_ok y (hL.2 y hy).2)
  have s3 := valid_ok en.V (envq_len he)
  have hv := value_ok hL he lets.length (Nat.le_refl _) 12 e (statF_yes hst).1 (statF_yes hst).2 hoe
  have hf := valF_fit hL he hst
  have hI0 := invR_nil (lets := lets) (en := en)
  rw [hst] at s1
  rw [lets_any hL] at s2
  rw [validF_q he] at s3
  rw [vV_q]
  change ACalls Tryz.prog 23 [vV en.V] _ at s3
  rw [vV_q] at s3
  generalize valF lets en lets.length e = R at *
  obtain ⟨op, k, u, s, l⟩ := e
  rw [aE_mk] at hv s1 ⊢
  cases R with
  | err c =>
    have hc : c ≠ 0 := hf
    replace hv : PCalls Tryz.prog 24 4 (fun b => [.one (.ptr (cellsR lets en b)), .agg [.int .i64 op, .int .i64 k, .int .i64 u, .str s, .sl (l.map encX)], cI (lets.length : Int)]) (.tup [zF0, cI c]) (InvR lets en) := hv
    show ACalls Tryz.prog 7 _ (.tup [zF0, cI c])
    refine ACalls.of_M TYok (qs := [zF0, cI c]) [.cell 6 40, .tmp 7] 63 Tryz.func7 (by kernel_rfl) rfl rfl rfl fun G => ?_
    refine W.initA (hw := ?_)
    repeat' (first | (refine RG.mplace (C := ⟨0, 0, []⟩) (t := 34) (n := 34) rfl ?_; intro bm) | (refine W.weaken (Le.freeze1 (m := 36) rfl) ?_) | ((first | apply U_ | (apply Ug_; exact rfl; exact rfl) | (apply Ugq_; exact rfl; exact rfl) | apply Lex.u | (apply Lex.g; exact rfl; exact rfl) | (apply Lex.gq; exact rfl; exact rfl)); (first | exact QX.B TYok | exact QX.Len TYok | exact QX.Ext TYok | exact QX.Build TYok | exact QCd (s1) | exact QCd (s2) | exact QCd (s3)); exact rfl) | refine SX.Alloc TYok (h := ?_) | refine SX.Store TYok (h := ?_) | refine SX.Box TYok (h := ?_) | (apply S_makeMap TYok 4; exact rfl; exact rfl) | (apply S_callp (hv) (g := 1000000); exact rfl; exact rfl; exact rfl; exact rfl; (first | assumption | exact ⟨_, rfl, by assumption⟩); exact EvD.auto; intro _ hI2) | refine SC ?_ | (apply RG.gT; exact rfl; exact rfl; (first | assumption | decide)) | (apply RG.gF; exact rfl; exact rfl; (first | assumption | decide | (rw [ne_eq, Bool.not_eq_true]; assumption) | (rw [ne_eq, Bool.not_eq_false]; assumption)); exact rfl) | (apply W.draw2 (id := 7) [0, 1, 3, 7, 0, 16, 48, 127, 127, 383, 1023, 2047, 4095, 8191] [[9], [50], [51], [52], [9], [54], [55], [56], [9], [58]] 10 [(50, 512), (51, 1125899906842624), (52, 2251799813685248), (53, 4503599627370496), (54, 512), (55, 18014398509481984), (56, 36028797018963968), (57, 72057594037927936), (58, 512), (59, 288230376151711744)] mixed (by kernel_rfl) rfl rfl) | (refine W.condA (ht := fun hb => ?_) (hf := fun hb => ?_) <;> (try simp at hb) <;> (try (exfalso; omega))))
    all_goals first
      | exact FinM.ret (ResM.cell rfl rfl rfl rfl zeroSubF (ResM.tmp rfl rfl PSub.rfl' ResM.nil))
      | trace_state
  | ok r =>
    have hr : okF r := hf
    have l1 := num_len hr.1
    have l2 := num_len hr.2
    have c1 := (clone_ok (digs (mag r.num)) (by omega)).data rfl
    have c2 := (clone_ok (digs (mag r.den)) (by omega)).data rfl
    replace hv : PCalls Tryz.prog 24 4 (fun b => [.one (.ptr (cellsR lets en b)), .agg [.int .i64 op, .int .i64 k, .int .i64 u, .str s, .sl (l.map encX)], cI (lets.length : Int)]) (.tup [zF r, cI 0]) (InvR lets en) := hv
    show ACalls Tryz.prog 7 _ (.tup [zF r, cI 0])
    refine ACalls.of_M TYok (qs := [zF r, cI 0]) [.cell 6 40, .tmp 7] 63 Tryz.func7 (by kernel_rfl) rfl rfl rfl fun G => ?_
    refine W.initA (hw := ?_)
    repeat' (first | (refine RG.mplace (C := ⟨0, 0, []⟩) (t := 34) (n := 34) rfl ?_; intro bm) | (refine W.weaken (Le.freeze1 (m := 36) rfl) ?_) | ((first | apply U_ | (apply Ug_; exact rfl; exact rfl) | (apply Ugq_; exact rfl; exact rfl) | apply Lex.u | (apply Lex.g; exact rfl; exact rfl) | (apply Lex.gq; exact rfl; exact rfl)); (first | exact QX.B TYok | exact QX.Len TYok | exact QX.Ext TYok | exact QX.Build TYok | exact QCd (s1) | exact QCd (s2) | exact QCd (s3) | exact QCd (c1) | exact QCd (c2)); exact rfl) | refine SX.Alloc TYok (h := ?_) | refine SX.Store TYok (h := ?_) | refine SX.Box TYok (h := ?_) | (apply S_makeMap TYok 4; exact rfl; exact rfl) | (apply S_callp (hv) (g := 1000000); exact rfl; exact rfl; exact rfl; exact rfl; (first | assumption | exact ⟨_, rfl, by assumption⟩); exact EvD.auto; intro _ hI2) | refine SC ?_ | (apply RG.gT; exact rfl; exact rfl; (first | assumption | decide)) | (apply RG.gF; exact rfl; exact rfl; (first | assumption | decide | (rw [ne_eq, Bool.not_eq_true]; assumption) | (rw [ne_eq, Bool.not_eq_false]; assumption)); exact rfl) | (apply W.draw2 (id := 7) [0, 1, 3, 7, 0, 16, 48, 127, 127, 383, 1023, 2047, 4095, 8191] [[9], [50], [51], [52], [9], [54], [55], [56], [9], [58]] 10 [(50, 512), (51, 1125899906842624), (52, 2251799813685248), (53, 4503599627370496), (54, 512), (55, 18014398509481984), (56, 36028797018963968), (57, 72057594037927936), (58, 512), (59, 288230376151711744)] mixed (by kernel_rfl) rfl rfl) | (refine W.condA (ht := fun hb => ?_) (hf := fun hb => ?_) <;> (try simp at hb) <;> (try (exfalso; omega))))
    all_goals first
      | exact FinM.ret ResM.auto
      | trace_state
end
end Go.Proofs.YtjedkgogjehigaaGreat
end
section
set_option linter.unusedVariables false
set_option linter.unusedSimpArgs false
set_option maxHeartbeats 8000000
set_option linter.unusedSectionVars false
namespace Go.Proofs.YtjedkgogjehigaaGreat
open Lf Go
attribute [local irreducible] PureOp EffOp Ev RG W Then InBlock Lf.Fin nth App InitE Pick SubE EvL EvD EvP EvR ResL Lf.Lex SubR SubBR EvC FinO FinM ResM ResD FinS val pw digs trimL
section
mutual
def nodesF : Exp → Int → Int
  | .mk _ _ _ _ l, m => nodesG l 1 m
def nodesG : List Exp → Int → Int → Int
  | [], a, _ => a
  | e :: r, a, m => if a ≤ m then nodesG r (a + nodesF e (m - a)) m else a
end
theorem nodesF_bd (e : Exp) : ∀ m, 1 ≤ nodesF e m ∧ nodesF e m ≤ max m 0 + 1 := by
  refine Exp.ind (P := fun e => ∀ m, 1 ≤ nodesF e m ∧ nodesF e m ≤ max m 0 + 1) (fun op n u s l ih m => ?_) e
  rw [nodesF]
  have key : ∀ (l : List Exp), (∀ x ∈ l, ∀ m, 1 ≤ nodesF x m ∧ nodesF x m ≤ max m 0 + 1) → ∀ a, 1 ≤ a → a ≤ max m 0 + 1 → 1 ≤ nodesG l a m ∧ nodesG l a m ≤ max m 0 + 1 := by
    intro l
    induction l with
    | nil => intro _ a h1 h2; rw [nodesG]; exact ⟨h1, h2⟩
    | cons x r ih2 =>
      intro hx a h1 h2
      rw [nodesG]
      split
      · have := hx x (by simp) (m - a)
        exact ih2 (fun y hy => hx y (List.mem_cons_of_mem _ hy)) _ (by omega) (by omega)
      · exact ⟨h1, h2⟩
  exact key l ih 1 (by omega) (by omega)
theorem nodes_ok (e : Exp) : OkE e → ∀ m : Int, 0 ≤ m + 1 → m ≤ 1000 → ACalls Tryz.prog 35 [aE e, cI m] (.pv (cI (nodesF e m))) := by
  refine Exp.ind (P := fun e => OkE e → ∀ m : Int, 0 ≤ m + 1 → m ≤ 1000 → ACalls Tryz.prog 35 [aE e, cI m] (.pv (cI (nodesF e m)))) (fun op n u s l ih he m h0 h1 => ?_) e
  cases he with
  | mk hs hl h =>
  rw [aE_mk, nodesF]
  refine ACalls.of_W (qs := [cI (nodesG l 1 m)]) [4] 31 Tryz.func35 (by kernel_rfl) rfl rfl rfl fun G => ?_
  refine W.initA (hw := ?_)
  repeat' (first | ((first | apply U_ | (apply Ug_; exact rfl; exact rfl) | (apply Ugq_; exact rfl; exact rfl)); (first | exact QX.B TYok | exact QX.Len TYok | exact QX.Idx TYok); exact rfl) | refine SX.Box TYok (h := ?_) | refine SC ?_ | (apply RG.gT; exact rfl; exact rfl; (first | assumption | decide)) | (apply RG.gF; exact rfl; exact rfl; (first | assumption | decide | (rw [ne_eq, Bool.not_eq_true]; assumption) | (rw [ne_eq, Bool.not_eq_false]; assumption)); exact rfl) | (refine W.condA (ht := fun hb => ?_) (hf := fun hb => ?_) <;> (try simp at hb) <;> (try (exfalso; omega))))
  apply W.loopP (σ := Nat × Int) 31 [1, 2] (fun (k, a) => k ≤ l.length ∧ (1 ≤ a ∧ a ≤ max m 0 + 1) ∧ nodesG (l.drop k) a m = nodesG l 1 m) (fun (k, a) => [(5, vI a), (6, vI k)]) (fun _ => [(2, ⟨25, 5, [[.int .i64 op, .int .i64 n, .int .i64 u, .str s, .sl (l.map encX)]]⟩)]) (fun (k, a) => l.length - k) ((0, 1))
  case hp => repeat (first | exact Pick.nil | apply Pick.cons rfl)
  case h0 =>
    refine ⟨⟨by simp, by omega, rfl⟩, ?_⟩
    exact Le.auto
  case round =>
    rintro ⟨k, a⟩ ⟨g1, g2, g3⟩
    apply W.norm (by repeat (first | exact App.nil | apply App.cons))
    by_cases hk : k < l.length
    · rw [drop_nth hk, nodesG] at g3
      by_cases ha : a ≤ m
      · rw [if_pos ha] at g3
        have hi := ih _ (nth_mem hk) (h _ (nth_mem hk)) (m - a) (by omega) (by omega)
        have hb2 := nodesF_bd (nth l k) (m - a)
        generalize nodesF (nth l k) (m - a) = N at *
        repeat' (first | ((first | apply U_ | (apply Ug_; exact rfl; exact rfl) | (apply Ugq_; exact rfl; exact rfl)); (first | exact QX.B TYok | exact QX.Len TYok | exact QX.Idx TYok | exact QCd (hi)); exact rfl) | refine SX.Box TYok (h := ?_) | refine SC ?_ | (apply RG.gT; exact rfl; exact rfl; (first | assumption | decide)) | (apply RG.gF; exact rfl; exact rfl; (first | assumption | decide | (rw [ne_eq, Bool.not_eq_true]; assumption) | (rw [ne_eq, Bool.not_eq_false]; assumption)); exact rfl) | (refine W.condA (ht := fun hb => ?_) (hf := fun hb => ?_) <;> (try simp at hb) <;> (try (exfalso; omega))))
        all_goals first
          | (refine ⟨(k + 1, a + N), ⟨by omega, by omega, g3⟩, ?_, by (first | omega | (simp only; omega))⟩; (try dsimp only); exact Le.auto)
          | (exfalso; omega)
          | trace_state
      · rw [if_neg ha] at g3
        rw [← g3]
        repeat' (first | ((first | apply U_ | (apply Ug_; exact rfl; exact rfl) | (apply Ugq_; exact rfl; exact rfl)); (first | exact QX.B TYok | exact QX.Len TYok | exact QX.Idx TYok); exact rfl) | refine SX.Box TYok (h := ?_) | refine SC ?_ | (apply RG.gT; exact rfl; exact rfl; (first | assumption | decide)) | (apply RG.gF; exact rfl; exact rfl; (first | assumption | decide | (rw [ne_eq, Bool.not_eq_true]; assumption) | (rw [ne_eq, Bool.not_eq_false]; assumption)); exact rfl) | (refine W.condA (ht := fun hb => ?_) (hf := fun hb => ?_) <;> (try simp at hb) <;> (try (exfalso; omega))))
        all_goals exact Fin.ret ResL.auto
    · obtain rfl : k = l.length := by omega
      rw [List.drop_length, nodesG] at g3
      rw [← g3]
      repeat' (first | ((first | apply U_ | (apply Ug_; exact rfl; exact rfl) | (apply Ugq_; exact rfl; exact rfl)); (first | exact QX.B TYok | exact QX.Len TYok | exact QX.Idx TYok); exact rfl) | refine SX.Box TYok (h := ?_) | refine SC ?_ | (apply RG.gT; exact rfl; exact rfl; (first | assumption | decide)) | (apply RG.gF; exact rfl; exact rfl; (first | assumption | decide | (rw [ne_eq, Bool.not_eq_true]; assumption) | (rw [ne_eq, Bool.not_eq_false]; assumption)); exact rfl) | (refine W.condA (ht := fun hb => ?_) (hf := fun hb => ?_) <;> (try simp at hb) <;> (try (exfalso; omega))))
      all_goals exact Fin.ret ResL.auto
mutual
def shortF : Exp → Bool
  | .mk _ _ _ s l => shortFs l && decide ((s.length : Int) ≤ 40)
def shortFs : List Exp → Bool
  | [] => true
  | e :: r => shortF e && shortFs r
end
theorem shortFs_all : ∀ l, shortFs l = l.all shortF
  | [] => rfl
  | e :: r => by rw [shortFs, shortFs_all r]; rfl
theorem all_takeE {l : List Exp} {p : Exp → Bool} {k : Nat} (h : k < l.length) : (l.take (k + 1)).all p = ((l.take k).all p && p (nth l k)) := by
  rw [take_nth h]; simp
theorem shortE_ok (e : Exp) : OkE e → ACalls Tryz.prog 36 [aE e] (.pv (cB (shortF e))) := by
  refine Exp.ind (P := fun e => OkE e → ACalls Tryz.prog 36 [aE e] (.pv (cB (shortF e)))) (fun op n u s l ih he => ?_) e
  cases he with
  | mk hs hl h =>
  rw [aE_mk, shortF, shortFs_all]
  refine ACalls.of_W (qs := [cB (l.all shortF && decide ((s.length : Int) ≤ 40))]) [2] 22 Tryz.func36 (by kernel_rfl) rfl rfl rfl fun G => ?_
  refine W.initA (hw := ?_)
  repeat' (first | ((first | apply U_); (first | exact QX.B TYok | exact QX.Len TYok | exact QX.Idx TYok); exact rfl) | refine SX.Box TYok (h := ?_) | refine SC ?_ | (refine W.condA (ht := fun hb => ?_) (hf := fun hb => ?_) <;> (try simp at hb) <;> (try (exfalso; omega))))
  apply W.loopP (σ := Nat) 22 [1] (fun k => k ≤ l.length ∧ (l.take k).all shortF = true) (fun k => [(3, vI k)]) (fun _ => [(1, ⟨25, 5, [[.int .i64 op, .int .i64 n, .int .i64 u, .str s, .sl (l.map encX)]]⟩)]) (fun k => l.length - k) (0)
  case hp => repeat (first | exact Pick.nil | apply Pick.cons rfl)
  case h0 =>
    refine ⟨by simp, ?_⟩
    exact Le.auto
  case round =>
    rintro k ⟨h1, h2⟩
    apply W.norm (by repeat (first | exact App.nil | apply App.cons))
    by_cases hk : k < l.length
    · have hi := ih _ (nth_mem hk) (h _ (nth_mem hk))
      cases hc : shortF (nth l k) with
      | false =>
        rw [hc] at hi
        have e : l.all shortF = false := by
          rw [← Bool.not_eq_true, List.all_eq_true]; intro hx; rw [hx _ (nth_mem hk)] at hc; cases hc
        rw [e]
        repeat' (first | ((first | apply U_); (first | exact QX.B TYok | exact QX.Len TYok | exact QX.Idx TYok | exact QCd (hi)); exact rfl) | refine SX.Box TYok (h := ?_) | refine SC ?_ | (refine W.condA (ht := fun hb => ?_) (hf := fun hb => ?_) <;> (try simp at hb) <;> (try (exfalso; omega))))
        all_goals exact Fin.ret ResL.auto
      | true =>
        rw [hc] at hi
        repeat' (first | ((first | apply U_); (first | exact QX.B TYok | exact QX.Len TYok | exact QX.Idx TYok | exact QCd (hi)); exact rfl) | refine SX.Box TYok (h := ?_) | refine SC ?_ | (refine W.condA (ht := fun hb => ?_) (hf := fun hb => ?_) <;> (try simp at hb) <;> (try (exfalso; omega))))
        all_goals first
          | (refine ⟨k + 1, ⟨by omega, by rw [all_takeE hk, h2, hc]; rfl⟩, ?_, by (try simp only); omega⟩; exact Le.auto)
          | (exfalso; omega)
          | trace_state
    · obtain rfl : k = l.length := by omega
      rw [List.take_length] at h2
      rw [h2]
      repeat' (first | ((first | apply U_); (first | exact QX.B TYok | exact QX.Len TYok | exact QX.Idx TYok); exact rfl) | refine SX.Box TYok (h := ?_) | refine SC ?_ | (refine W.condA (ht := fun hb => ?_) (hf := fun hb => ?_) <;> (try simp at hb) <;> (try (exfalso; omega))))
      all_goals exact Fin.ret ResL.auto
def fewE (e : Exp) (m : Int) : Bool := decide (nodesF e m ≤ m) && shortF e
theorem fewE_ok (e : Exp) (he : OkE e) (m : Int) (h0 : 0 ≤ m) (h1 : m ≤ 1000) : ACalls Tryz.prog 18 [aE e, cI m] (.pv (cB (fewE e m))) := by
  have c1 := nodes_ok e he m (by omega) h1
  have c2 := shortE_ok e he
  unfold fewE
  generalize nodesF e m = N at *
  generalize shortF e = b at *
  obtain ⟨op, k, u, s, l⟩ := e
  by_cases hN : N ≤ m
  · rw [decide_eq_true hN]
    refine ACalls.of_W (qs := [cB (true && b)]) [4] 12 Tryz.func18 (by kernel_rfl) rfl rfl rfl fun G => ?_
    refine W.initA (hw := ?_)
    repeat' (first | ((first | apply U_); (first | exact QX.B TYok | exact QCd (c1) | exact QCd (c2)); exact rfl) | refine SX.Box TYok (h := ?_) | refine SC ?_ | (refine W.condA (ht := fun hb => ?_) (hf := fun hb => ?_) <;> (try simp at hb) <;> (try (exfalso; omega))))
    all_goals exact Fin.ret ResL.auto
  · rw [decide_eq_false hN]
    refine ACalls.of_W (qs := [cB (false && b)]) [4] 12 Tryz.func18 (by kernel_rfl) rfl rfl rfl fun G => ?_
    refine W.initA (hw := ?_)
    repeat' (first | ((first | apply U_); (first | exact QX.B TYok | exact QCd (c1) | exact QCd (c2)); exact rfl) | refine SX.Box TYok (h := ?_) | refine SC ?_ | (refine W.condA (ht := fun hb => ?_) (hf := fun hb => ?_) <;> (try simp at hb) <;> (try (exfalso; omega))))
    all_goals exact Fin.ret ResL.auto
def fewL1 (y : Let) : Bool := fewE y.body 11 && decide ((y.name.length : Int) ≤ 40)
def fewL (lets : List Let) : Bool := decide ((lets.length : Int) ≤ 3) && lets.all fewL1
theorem all_takeL {α : Type} [Inhabited α] {l : List α} {p : α → Bool} {k : Nat} (h : k < l.length) : (l.take (k + 1)).all p = ((l.take k).all p && p (nth l k)) := by
  rw [take_nth h]; simp
theorem all_no {α : Type} [Inhabited α] {l : List α} {p : α → Bool} {k : Nat} (hk : k < l.length) (h : p (nth l k) = false) : l.all p = false := by
  rw [← Bool.not_eq_true, List.all_eq_true]; intro hx; rw [hx _ (nth_mem hk)] at h; cases h
theorem fewL_ok {lets : List Let} (hl : LIn lets) : ACalls Tryz.prog 17 [slL lets] (.pv (cB (fewL lets))) := by
  have hlen := hl.len
  unfold fewL
  refine ACalls.of_W (qs := [cB (decide ((lets.length : Int) ≤ 3) && lets.all fewL1)]) [2] 33 Tryz.func17 (by kernel_rfl) rfl rfl rfl fun G => ?_
  refine W.initA (hw := ?_)
  repeat' (first | ((first | apply U_ | (apply Ug_; exact rfl; exact rfl) | (apply Ugq_; exact rfl; exact rfl)); (first | exact QX.B TYok | exact QX.Len TYok | exact QX.Idx TYok); exact rfl) | refine SC ?_ | (apply RG.gT; exact rfl; exact rfl; (first | assumption | decide)) | (apply RG.gF; exact rfl; exact rfl; (first | assumption | decide | (rw [ne_eq, Bool.not_eq_true]; assumption) | (rw [ne_eq, Bool.not_eq_false]; assumption)); exact rfl) | (refine W.condA (ht := fun hb => ?_) (hf := fun hb => ?_) <;> (try simp at hb) <;> (try (exfalso; omega))))
  apply W.loopP (σ := Nat) 33 [0] (fun k => k ≤ lets.length ∧ k ≤ 4 ∧ (lets.take k).all fewL1 = true) (fun k => [(3, vI k)]) (fun _ => []) (fun k => lets.length - k) (0)
  case hp => repeat (first | exact Pick.nil | apply Pick.cons rfl)
  case h0 =>
    refine ⟨by simp, ?_⟩
    exact Le.auto
  case round =>
    rintro k ⟨h1, h3, h2⟩
    apply W.norm (by repeat (first | exact App.nil | apply App.cons))
    by_cases hk : k < lets.length ∧ k < 4
    · have hi := fewE_ok (nth lets k).body (hl.ok _ (nth_mem hk.1)) 11 (by omega) (by omega)
      have hdef : fewL1 (nth lets k) = (fewE (nth lets k).body 11 && decide (((nth lets k).name.length : Int) ≤ 40)) := rfl
      by_cases hc : fewL1 (nth lets k) = true
      · have hc2 := hc
        rw [hdef, Bool.and_eq_true, decide_eq_true_iff] at hc2
        rw [hc2.1] at hi
        repeat' (first | ((first | apply U_ | (apply Ug_; exact rfl; exact rfl) | (apply Ugq_; exact rfl; exact rfl)); (first | exact QX.B TYok | exact QX.Len TYok | exact QX.Idx TYok | exact QCd (hi)); exact rfl) | refine SC ?_ | (apply RG.gT; exact rfl; exact rfl; (first | assumption | decide)) | (apply RG.gF; exact rfl; exact rfl; (first | assumption | decide | (rw [ne_eq, Bool.not_eq_true]; assumption) | (rw [ne_eq, Bool.not_eq_false]; assumption)); exact rfl) | (refine W.condA (ht := fun hb => ?_) (hf := fun hb => ?_) <;> (try simp at hb) <;> (try (exfalso; omega))))
        all_goals first
          | (refine ⟨k + 1, ⟨by omega, by omega, by rw [all_takeL hk.1, h2, hc]; rfl⟩, ?_, by (try simp only); omega⟩; exact Le.auto)
          | (exfalso; omega)
          | (exfalso; have := hc2.2; simp_all; omega)
          | trace_state
      · rw [Bool.not_eq_true] at hc
        rw [all_no hk.1 hc, Bool.and_false]
        rw [hdef] at hc
        generalize fewE (nth lets k).body 11 = b at *
        have hbad : b = true ∧ ((nth lets k).name.length : Int) ≤ 40 → False := fun q => by
          rw [q.1, decide_eq_true q.2] at hc; cases hc
        repeat' (first | ((first | apply U_ | (apply Ug_; exact rfl; exact rfl) | (apply Ugq_; exact rfl; exact rfl)); (first | exact QX.B TYok | exact QX.Len TYok | exact QX.Idx TYok | exact QCd (hi)); exact rfl) | refine SC ?_ | (apply RG.gT; exact rfl; exact rfl; (first | assumption | decide)) | (apply RG.gF; exact rfl; exact rfl; (first | assumption | decide | (rw [ne_eq, Bool.not_eq_true]; assumption) | (rw [ne_eq, Bool.not_eq_false]; assumption)); exact rfl) | (refine W.condA (ht := fun hb => ?_) (hf := fun hb => ?_) <;> (try simp at hb) <;> (try (exfalso; first | exact hbad hb | omega))))
        all_goals first
          | exact Fin.ret ResL.auto
          | (exfalso; omega)
          | trace_state
    · by_cases h4 : lets.length ≤ 3
      · obtain rfl : k = lets.length := by omega
        rw [List.take_length] at h2
        rw [h2, decide_eq_true (by omega)]
        repeat' (first | ((first | apply U_ | (apply Ug_; exact rfl; exact rfl) | (apply Ugq_; exact rfl; exact rfl)); (first | exact QX.B TYok | exact QX.Len TYok | exact QX.Idx TYok); exact rfl) | refine SC ?_ | (apply RG.gT; exact rfl; exact rfl; (first | assumption | decide)) | (apply RG.gF; exact rfl; exact rfl; (first | assumption | decide | (rw [ne_eq, Bool.not_eq_true]; assumption) | (rw [ne_eq, Bool.not_eq_false]; assumption)); exact rfl) | (refine W.condA (ht := fun hb => ?_) (hf := fun hb => ?_) <;> (try simp at hb) <;> (try (exfalso; omega))))
        all_goals first
          | exact Fin.retB rfl (by simp; omega)
          | (exfalso; omega)
          | trace_state
      · rw [decide_eq_false (by omega), Bool.false_and]
        repeat' (first | ((first | apply U_ | (apply Ug_; exact rfl; exact rfl) | (apply Ugq_; exact rfl; exact rfl)); (first | exact QX.B TYok | exact QX.Len TYok | exact QX.Idx TYok); exact rfl) | refine SC ?_ | (apply RG.gT; exact rfl; exact rfl; (first | assumption | decide)) | (apply RG.gF; exact rfl; exact rfl; (first | assumption | decide | (rw [ne_eq, Bool.not_eq_true]; assumption) | (rw [ne_eq, Bool.not_eq_false]; assumption)); exact rfl) | (refine W.condA (ht := fun hb => ?_) (hf := fun hb => ?_) <;> (try simp at hb) <;> (try (exfalso; omega))))
        all_goals first
          | exact Fin.ret (ResL.cons rfl rfl (PSub.of_eq (by rw [decide_eq_false (by omega)])) ResL.nil)
          | (exfalso; omega)
          | trace_state
end
end Go.Proofs.YtjedkgogjehigaaGreat
end
section
set_option linter.unusedVariables false
set_option linter.unusedSimpArgs false
set_option maxHeartbeats 8000000
set_option linter.unusedSectionVars false
namespace Go.Proofs.YtjedkgogjehigaaGreat
open Lf Go
attribute [local irreducible] PureOp EffOp Ev RG W Then InBlock Lf.Fin nth App InitE Pick SubE EvL EvD EvP EvR ResL Lf.Lex SubR SubBR EvC FinO FinM ResM ResD FinS val pw digs trimL
section
def fewQ (q : Fq) : Bool := decide ((q.d.length : Int) ≤ 3) && decide ((q.d'.length : Int) ≤ 3)
def fewS (s : Str) : Bool := decide ((s.length : Int) ≤ 40)
theorem fewQ_ok (q : Fq) : ACalls Tryz.prog 37 [fqV q, cI 3] (.pv (cB (fewQ q))) := by
  obtain ⟨s, d, s', d'⟩ := q
  unfold fewQ
  refine ACalls.of_W (qs := [cB (decide ((d.length : Int) ≤ 3) && decide ((d'.length : Int) ≤ 3))]) [4] 19 Tryz.func37 (by kernel_rfl) rfl rfl rfl fun G => ?_
  refine W.initA (hw := ?_)
  repeat' (first | ((first | apply U_ | (apply Ug_; exact rfl; exact rfl) | (apply Ugq_; exact rfl; exact rfl)); (first | exact QX.B TYok | exact QX.Len TYok); exact rfl) | refine SX.Box TYok (h := ?_) | refine SC ?_ | (apply RG.gT; exact rfl; exact rfl; (first | assumption | decide)) | (apply RG.gF; exact rfl; exact rfl; (first | assumption | decide | (rw [ne_eq, Bool.not_eq_true]; assumption) | (rw [ne_eq, Bool.not_eq_false]; assumption)); exact rfl) | (refine W.condA (ht := fun hb => ?_) (hf := fun hb => ?_) <;> (try simp at hb) <;> (try (exfalso; omega))))
  all_goals exact Fin.ret ResL.auto
def lens8 (v : EnvV) : Prop := v.names.length ≤ 8 ∧ v.vals.length ≤ 8 ∧ v.iss.length ≤ 8 ∧ v.rates.length ≤ 8
instance (v : EnvV) : Decidable (lens8 v) := by unfold lens8; infer_instance
def fewV (v : EnvV) : Bool := ((decide (lens8 v) && v.vals.all fewQ) && v.rates.all fewQ) && (v.names ++ v.iss).all fewS
theorem nth_app {α : Type} [Inhabited α] {a b : List α} {k : Nat} (h : k < (a ++ b).length) : nth (a ++ b) k = if k < a.length then nth a k else nth b (k - a.length) := by
  rw [nth, List.getD_eq_getElem?_getD]
  split
  · rename_i h1
    rw [List.getElem?_append_left h1, nth, List.getD_eq_getElem?_getD]
  · rename_i h1
    rw [List.getElem?_append_right (by omega), nth, List.getD_eq_getElem?_getD]
theorem fewV_ok (v : EnvV) (hv : v.Len) : ACalls Tryz.prog 19 [vV v] (.pv (cB (fewV v))) := by
  have hq := fewQ_ok
  obtain ⟨h1, h2, h3, h4, _, _⟩ := hv
  obtain ⟨N, V, I, R⟩ := v
  simp only at h1 h2 h3 h4
  by_cases h8 : lens8 ⟨N, V, I, R⟩
  case neg =>
    have e : fewV ⟨N, V, I, R⟩ = false := by unfold fewV; rw [decide_eq_false h8]; rfl
    unfold lens8 at h8
    simp only at h8
    rw [e]
    refine ACalls.of_W (qs := [cB false]) [2] 90 Tryz.func19 (by kernel_rfl) rfl rfl rfl fun G => ?_
    refine W.initA (hw := ?_)
    repeat' (first | ((first | apply U_ | (apply Ug_; exact rfl; exact rfl) | (apply Ugq_; exact rfl; exact rfl)); (first | exact QX.B TYok | exact QX.Len TYok | exact QX.Idx TYok); exact rfl) | refine SX.Box TYok (h := ?_) | refine SC ?_ | (apply RG.gT; exact rfl; exact rfl; (first | assumption | decide)) | (apply RG.gF; exact rfl; exact rfl; (first | assumption | decide | (rw [ne_eq, Bool.not_eq_true]; assumption) | (rw [ne_eq, Bool.not_eq_false]; assumption)); exact rfl) | (refine W.condA (ht := fun hb => ?_) (hf := fun hb => ?_) <;> (try simp at hb) <;> (try (exfalso; omega))))
    all_goals first
      | exact Fin.ret ResL.auto
      | (exfalso; omega)
      | trace_state
  have e0 : fewV ⟨N, V, I, R⟩ = ((V.all fewQ && R.all fewQ) && (N ++ I).all fewS) := by unfold fewV; rw [decide_eq_true h8, Bool.true_and]
  unfold lens8 at h8
  simp only at h8
  rw [e0]
  refine ACalls.of_W (qs := [cB ((V.all fewQ && R.all fewQ) && (N ++ I).all fewS)]) [2] 90 Tryz.func19 (by kernel_rfl) rfl rfl rfl fun G => ?_
  refine W.initA (hw := ?_)
  repeat' (first | ((first | apply U_ | (apply Ug_; exact rfl; exact rfl) | (apply Ugq_; exact rfl; exact rfl)); (first | exact QX.B TYok | exact QX.Len TYok | exact QX.Idx TYok); exact rfl) | refine SX.Box TYok (h := ?_) | refine SC ?_ | (apply RG.gT; exact rfl; exact rfl; (first | assumption | decide)) | (apply RG.gF; exact rfl; exact rfl; (first | assumption | decide | (rw [ne_eq, Bool.not_eq_true]; assumption) | (rw [ne_eq, Bool.not_eq_false]; assumption)); exact rfl) | (refine W.condA (ht := fun hb => ?_) (hf := fun hb => ?_) <;> (try simp at hb) <;> (try (exfalso; omega))))
  apply W.loopP (σ := Nat) 90 [1] (fun k => k ≤ V.length ∧ (V.take k).all fewQ = true) (fun k => [(3, vI k)]) (fun _ => [(1, ⟨29, 4, [[.sl (N.map encS), .sl (V.map encF), .sl (I.map encS), .sl (R.map encF)]]⟩)]) (fun k => V.length - k) (0)
  case hp => repeat (first | exact Pick.nil | apply Pick.cons rfl)
  case h0 =>
    refine ⟨by simp, ?_⟩
    exact Le.auto
  case round =>
    rintro k ⟨g1, g2⟩
    apply W.norm (by repeat (first | exact App.nil | apply App.cons))
    by_cases hk : k < V.length
    · have hi := hq (nth V k)
      cases hc : fewQ (nth V k) with
      | false =>
        rw [hc] at hi
        rw [all_no hk hc, Bool.false_and, Bool.false_and]
        repeat' (first | ((first | apply U_ | (apply Ug_; exact rfl; exact rfl) | (apply Ugq_; exact rfl; exact rfl)); (first | exact QX.B TYok | exact QX.Len TYok | exact QX.Idx TYok | exact QCd (hi)); exact rfl) | refine SX.Box TYok (h := ?_) | refine SC ?_ | (apply RG.gT; exact rfl; exact rfl; (first | assumption | decide)) | (apply RG.gF; exact rfl; exact rfl; (first | assumption | decide | (rw [ne_eq, Bool.not_eq_true]; assumption) | (rw [ne_eq, Bool.not_eq_false]; assumption)); exact rfl) | (refine W.condA (ht := fun hb => ?_) (hf := fun hb => ?_) <;> (try simp at hb) <;> (try (exfalso; omega))))
        all_goals first
          | exact Fin.ret ResL.auto
          | (exfalso; omega)
          | trace_state
      | true =>
        rw [hc] at hi
        repeat' (first | ((first | apply U_ | (apply Ug_; exact rfl; exact rfl) | (apply Ugq_; exact rfl; exact rfl)); (first | exact QX.B TYok | exact QX.Len TYok | exact QX.Idx TYok | exact QCd (hi)); exact rfl) | refine SX.Box TYok (h := ?_) | refine SC ?_ | (apply RG.gT; exact rfl; exact rfl; (first | assumption | decide)) | (apply RG.gF; exact rfl; exact rfl; (first | assumption | decide | (rw [ne_eq, Bool.not_eq_true]; assumption) | (rw [ne_eq, Bool.not_eq_false]; assumption)); exact rfl) | (refine W.condA (ht := fun hb => ?_) (hf := fun hb => ?_) <;> (try simp at hb) <;> (try (exfalso; omega))))
        all_goals first
          | (refine ⟨k + 1, ⟨by omega, by rw [all_takeL hk, g2, hc]; rfl⟩, ?_, by (try simp only); omega⟩; exact Le.auto)
          | (exfalso; omega)
          | trace_state
    obtain rfl : k = V.length := by omega
    rw [List.take_length] at g2
    rw [g2, Bool.true_and]
    repeat' (first | ((first | apply U_ | (apply Ug_; exact rfl; exact rfl) | (apply Ugq_; exact rfl; exact rfl)); (first | exact QX.B TYok | exact QX.Len TYok | exact QX.Idx TYok); exact rfl) | refine SX.Box TYok (h := ?_) | refine SC ?_ | (apply RG.gT; exact rfl; exact rfl; (first | assumption | decide)) | (apply RG.gF; exact rfl; exact rfl; (first | assumption | decide | (rw [ne_eq, Bool.not_eq_true]; assumption) | (rw [ne_eq, Bool.not_eq_false]; assumption)); exact rfl) | (refine W.condA (ht := fun hb => ?_) (hf := fun hb => ?_) <;> (try simp at hb) <;> (try (exfalso; omega))))
    apply W.loopP (σ := Nat) 90 [1] (fun k => k ≤ R.length ∧ (R.take k).all fewQ = true) (fun k => [(4, vI k)]) (fun _ => [(1, ⟨29, 4, [[.sl (N.map encS), .sl (V.map encF), .sl (I.map encS), .sl (R.map encF)]]⟩)]) (fun k => R.length - k) (0)
    case hp => repeat (first | exact Pick.nil | apply Pick.cons rfl)
    case h0 =>
      refine ⟨by simp, ?_⟩
      exact Le.auto
    case round =>
      rintro k ⟨r1, r2⟩
      apply W.norm (by repeat (first | exact App.nil | apply App.cons))
      by_cases hk : k < R.length
      · have hi := hq (nth R k)
        cases hc : fewQ (nth R k) with
        | false =>
          rw [hc] at hi
          rw [all_no hk hc, Bool.false_and]
          repeat' (first | ((first | apply U_ | (apply Ug_; exact rfl; exact rfl) | (apply Ugq_; exact rfl; exact rfl)); (first | exact QX.B TYok | exact QX.Len TYok | exact QX.Idx TYok | exact QCd (hi)); exact rfl) | refine SX.Box TYok (h := ?_) | refine SC ?_ | (apply RG.gT; exact rfl; exact rfl; (first | assumption | decide)) | (apply RG.gF; exact rfl; exact rfl; (first | assumption | decide | (rw [ne_eq, Bool.not_eq_true]; assumption) | (rw [ne_eq, Bool.not_eq_false]; assumption)); exact rfl) | (refine W.condA (ht := fun hb => ?_) (hf := fun hb => ?_) <;> (try simp at hb) <;> (try (exfalso; omega))))
          all_goals first
            | exact Fin.ret ResL.auto
            | (exfalso; omega)
            | trace_state
        | true =>
          rw [hc] at hi
          repeat' (first | ((first | apply U_ | (apply Ug_; exact rfl; exact rfl) | (apply Ugq_; exact rfl; exact rfl)); (first | exact QX.B TYok | exact QX.Len TYok | exact QX.Idx TYok | exact QCd (hi)); exact rfl) | refine SX.Box TYok (h := ?_) | refine SC ?_ | (apply RG.gT; exact rfl; exact rfl; (first | assumption | decide)) | (apply RG.gF; exact rfl; exact rfl; (first | assumption | decide | (rw [ne_eq, Bool.not_eq_true]; assumption) | (rw [ne_eq, Bool.not_eq_false]; assumption)); exact rfl) | (refine W.condA (ht := fun hb => ?_) (hf := fun hb => ?_) <;> (try simp at hb) <;> (try (exfalso; omega))))
          all_goals first
            | (refine ⟨k + 1, ⟨by omega, by rw [all_takeL hk, r2, hc]; rfl⟩, ?_, by (try simp only); omega⟩; exact Le.auto)
            | (exfalso; omega)
            | trace_state
      obtain rfl : k = R.length := by omega
      rw [List.take_length] at r2
      rw [r2, Bool.true_and]
      repeat' (first | ((first | apply U_ | (apply Ug_; exact rfl; exact rfl) | (apply Ugq_; exact rfl; exact rfl)); (first | exact QX.B TYok | exact QX.Len TYok | exact QX.Idx TYok); exact rfl) | refine SX.Box TYok (h := ?_) | refine SC ?_ | (apply RG.gT; exact rfl; exact rfl; (first | assumption | decide)) | (apply RG.gF; exact rfl; exact rfl; (first | assumption | decide | (rw [ne_eq, Bool.not_eq_true]; assumption) | (rw [ne_eq, Bool.not_eq_false]; assumption)); exact rfl) | (refine W.condA (ht := fun hb => ?_) (hf := fun hb => ?_) <;> (try simp at hb) <;> (try (exfalso; omega))))
      apply W.loopP (σ := Nat) 90 [1] (fun k => k ≤ (N ++ I).length ∧ ((N ++ I).take k).all fewS = true) (fun k => [(5, vI k)]) (fun _ => [(1, ⟨29, 4, [[.sl (N.map encS), .sl (V.map encF), .sl (I.map encS), .sl (R.map encF)]]⟩)]) (fun k => (N ++ I).length - k) (0)
      case hp => repeat (first | exact Pick.nil | apply Pick.cons rfl)
      case h0 =>
        refine ⟨by simp, ?_⟩
        exact Le.auto
      case round =>
        rintro k ⟨t1, t2⟩
        apply W.norm (by repeat (first | exact App.nil | apply App.cons))
        have hlen : (N ++ I).length = N.length + I.length := List.length_append
        by_cases hk : k < (N ++ I).length
        · have hn := nth_app (a := N) (b := I) hk
          have hidx : ((k : Int) - (N.length : Int)).toNat = k - N.length := by omega
          cases hc : fewS (nth (N ++ I) k) with
          | false =>
            rw [all_no hk hc]
            by_cases hkn : k < N.length
            · rw [if_pos hkn] at hn
              rw [hn] at hc
              have hc' := of_decide_eq_false hc
              repeat' (first | ((first | apply U_ | (apply Ug_; exact rfl; exact rfl) | (apply Ugq_; exact rfl; exact rfl)); (first | exact QX.B TYok | exact QX.Len TYok | exact QX.Idx TYok); exact rfl) | refine SX.Box TYok (h := ?_) | refine SC ?_ | (apply RG.gT; exact rfl; exact rfl; (first | assumption | decide)) | (apply RG.gF; exact rfl; exact rfl; (first | assumption | decide | (rw [ne_eq, Bool.not_eq_true]; assumption) | (rw [ne_eq, Bool.not_eq_false]; assumption)); exact rfl) | (refine W.condA (ht := fun hb => ?_) (hf := fun hb => ?_) <;> (try simp at hb) <;> (try (exfalso; omega))))
              all_goals first
                | exact Fin.ret ResL.auto
                | (exfalso; omega)
                | trace_state
            · rw [if_neg hkn] at hn
              rw [hn] at hc
              have hc' := of_decide_eq_false hc
              have hki : k - N.length < I.length := by omega
              repeat' (first | ((first | apply U_ | (apply Ug_; exact rfl; exact rfl) | (apply Ugq_; exact rfl; exact rfl)); (first | exact QX.B TYok | exact QX.Len TYok | exact QX.Idx TYok); exact rfl) | refine SX.Box TYok (h := ?_) | refine SC ?_ | (apply RG.gT; exact rfl; exact rfl; (first | assumption | decide)) | (apply RG.gF; exact rfl; exact rfl; (first | assumption | decide | (rw [ne_eq, Bool.not_eq_true]; assumption) | (rw [ne_eq, Bool.not_eq_false]; assumption)); exact rfl) | (refine W.condA (ht := fun hb => ?_) (hf := fun hb => ?_) <;> (try simp at hb) <;> (try (exfalso; omega))))
              all_goals first
                | exact Fin.ret ResL.auto
                | (exfalso; omega)
                | trace_state
          | true =>
            have ht : ((N ++ I).take (k + 1)).all fewS = true := by rw [all_takeL hk, t2, hc]; rfl
            by_cases hkn : k < N.length
            · rw [if_pos hkn] at hn
              rw [hn] at hc
              have hc' := of_decide_eq_true hc
              repeat' (first | ((first | apply U_ | (apply Ug_; exact rfl; exact rfl) | (apply Ugq_; exact rfl; exact rfl)); (first | exact QX.B TYok | exact QX.Len TYok | exact QX.Idx TYok); exact rfl) | refine SX.Box TYok (h := ?_) | refine SC ?_ | (apply RG.gT; exact rfl; exact rfl; (first | assumption | decide)) | (apply RG.gF; exact rfl; exact rfl; (first | assumption | decide | (rw [ne_eq, Bool.not_eq_true]; assumption) | (rw [ne_eq, Bool.not_eq_false]; assumption)); exact rfl) | (refine W.condA (ht := fun hb => ?_) (hf := fun hb => ?_) <;> (try simp at hb) <;> (try (exfalso; omega))))
              all_goals first
                | (refine ⟨k + 1, ⟨by omega, ht⟩, ?_, by (try simp only); omega⟩; exact Le.auto)
                | (exfalso; omega)
                | trace_state
            · rw [if_neg hkn] at hn
              rw [hn] at hc
              have hc' := of_decide_eq_true hc
              have hki : k - N.length < I.length := by omega
              repeat' (first | ((first | apply U_ | (apply Ug_; exact rfl; exact rfl) | (apply Ugq_; exact rfl; exact rfl)); (first | exact QX.B TYok | exact QX.Len TYok | exact QX.Idx TYok); exact rfl) | refine SX.Box TYok (h := ?_) | refine SC ?_ | (apply RG.gT; exact rfl; exact rfl; (first | assumption | decide)) | (apply RG.gF; exact rfl; exact rfl; (first | assumption | decide | (rw [ne_eq, Bool.not_eq_true]; assumption) | (rw [ne_eq, Bool.not_eq_false]; assumption)); exact rfl) | (refine W.condA (ht := fun hb => ?_) (hf := fun hb => ?_) <;> (try simp at hb) <;> (try (exfalso; omega))))
              all_goals first
                | (refine ⟨k + 1, ⟨by omega, ht⟩, ?_, by (try simp only); omega⟩; exact Le.auto)
                | (exfalso; omega)
                | trace_state
        obtain rfl : k = (N ++ I).length := by omega
        rw [List.take_length] at t2
        rw [t2]
        repeat' (first | ((first | apply U_ | (apply Ug_; exact rfl; exact rfl) | (apply Ugq_; exact rfl; exact rfl)); (first | exact QX.B TYok | exact QX.Len TYok | exact QX.Idx TYok); exact rfl) | refine SX.Box TYok (h := ?_) | refine SC ?_ | (apply RG.gT; exact rfl; exact rfl; (first | assumption | decide)) | (apply RG.gF; exact rfl; exact rfl; (first | assumption | decide | (rw [ne_eq, Bool.not_eq_true]; assumption) | (rw [ne_eq, Bool.not_eq_false]; assumption)); exact rfl) | (refine W.condA (ht := fun hb => ?_) (hf := fun hb => ?_) <;> (try simp at hb) <;> (try (exfalso; omega))))
        all_goals first
          | exact Fin.ret ResL.auto
          | (exfalso; omega)
          | trace_state
end
end Go.Proofs.YtjedkgogjehigaaGreat
end
section
set_option linter.unusedVariables false
set_option linter.unusedSimpArgs false
set_option maxHeartbeats 8000000
set_option linter.unusedSectionVars false
namespace Go.Proofs.YtjedkgogjehigaaGreat
open Lf Go
attribute [local irreducible] PureOp EffOp Ev RG W Then InBlock Lf.Fin nth App InitE Pick SubE EvL EvD EvP EvR ResL Lf.Lex SubR SubBR EvC FinO FinM ResM ResD FinS val pw digs trimL
section
def fewF (lets : List Let) (e : Exp) (v : EnvV) : Bool := (fewL lets && fewE e 31) && fewV v
theorem few_ok {lets : List Let} (hl : LIn lets) (e : Exp) (he : OkE e) (v : EnvV) (hv : v.Len) : ACalls Tryz.prog 6 [xV lets, aE e, vV v] (.pv (cB (fewF lets e v))) := by
  have c1 := fewL_ok hl
  have c2 := fewE_ok e he 31 (by omega) (by omega)
  have c3 := fewV_ok v hv
  unfold fewF
  generalize fewL lets = b1 at *
  generalize fewE e 31 = b2 at *
  generalize fewV v = b3 at *
  obtain ⟨op, k, u, s, l⟩ := e
  obtain ⟨N, V, I, R⟩ := v
  refine ACalls.of_W (qs := [cB ((b1 && b2) && b3)]) [6] 18 Tryz.func6 (by kernel_rfl) rfl rfl rfl fun G => ?_
  refine W.initA (hw := ?_)
  repeat' (first | ((first | apply U_ | (apply Ug_; exact rfl; exact rfl) | (apply Ugq_; exact rfl; exact rfl)); (first | exact QX.B TYok | exact QCd (c1) | exact QCd (c2) | exact QCd (c3)); exact rfl) | refine SX.Box TYok (h := ?_) | refine SC ?_ | (apply RG.gT; exact rfl; exact rfl; (first | assumption | decide)) | (apply RG.gF; exact rfl; exact rfl; (first | assumption | decide | (rw [ne_eq, Bool.not_eq_true]; assumption) | (rw [ne_eq, Bool.not_eq_false]; assumption)); exact rfl) | (refine W.condA (ht := fun hb => ?_) (hf := fun hb => ?_) <;> (try simp at hb) <;> (try (exfalso; omega))))
  all_goals exact Fin.ret ResL.auto
theorem env_ok (v : EnvV) : ACalls Tryz.prog 8 [vV v] (.pv (vV v)) := by
  obtain ⟨N, V, I, R⟩ := v
  refine ACalls.of_M TYok (qs := [.agg [.sl (N.map encS), .sl (V.map encF), .sl (I.map encS), .sl (R.map encF)]]) [.cell 2 44] 12 Tryz.func8 (by kernel_rfl) rfl rfl rfl fun G => ?_
  refine W.initA (hw := ?_)
  repeat' (first | ((first | apply U_); (first | exact QX.B TYok | exact QX.Build TYok); exact rfl) | refine SX.Alloc TYok (h := ?_) | refine SX.Store TYok (h := ?_) | refine SX.Box TYok (h := ?_) | refine SC ?_ | (refine W.condA (ht := fun hb => ?_) (hf := fun hb => ?_) <;> (try simp at hb) <;> (try (exfalso; omega))))
  all_goals exact FinM.ret ResM.auto
def nodeE (op : Int) (a b : Exp) : Exp := .mk op 0 0 [] [a, b]
theorem node_ok (op : Int) (a b : Exp) : ACalls Tryz.prog 15 [cI op, aE a, aE b] (.pv (aE (nodeE op a b))) := by
  rw [show aE (nodeE op a b) = .agg [.int .i64 op, .int .i64 0, .int .i64 0, .str [], .sl [encX a, encX b]] from aE_mk ..]
  refine ACalls.of_M TYok (qs := [.agg [.int .i64 op, .int .i64 0, .int .i64 0, .str [], .sl [encX a, encX b]]]) [.cell 6 25] 12 Tryz.func15 (by kernel_rfl) rfl rfl rfl fun G => ?_
  refine W.initA (hw := ?_)
  repeat' (first | ((first | apply U_); (first | (apply Q_litD TYok; apply EvR.cons Ev.auto; (repeat (first | exact EvR.nil | apply EvR.cons Ev.auto)); exact rfl; exact rfl; exact rfl; exact rfl; exact rfl; exact rfl) | exact QX.B TYok | exact QX.Build TYok); exact rfl) | refine SX.Alloc TYok (h := ?_) | refine SX.Store TYok (h := ?_) | refine SX.Lit TYok (h := ?_) | refine SX.Box TYok (h := ?_) | refine SC ?_ | (refine W.condA (ht := fun hb => ?_) (hf := fun hb => ?_) <;> (try simp at hb) <;> (try (exfalso; omega))))
  all_goals exact FinM.ret ResM.auto
theorem okNode {op : Int} {a b : Exp} (ha : OkE a) (hb : OkE b) : OkE (nodeE op a b) := .mk (by decide) (by simp) (fun x hx => by
  rcases List.mem_cons.1 hx with rfl | hx
  · exact ha
  · rw [List.mem_singleton.1 hx]; exact hb)
attribute [local irreducible] sgn mag gcdZ quoZ remZ fullZ fullE
theorem of_ok (n m : Int) (h : i64B n) (hm : i64B m) (h0 : m ≠ 0) : ACalls Tryz.prog 14 [cI n, cI m] (.pv (zF (Rat.divInt n m))) := by
  have n1 := qof_ok n m h hm h0
  generalize Rat.divInt n m = r at *
  refine ACalls.of_M TYok (qs := [zF r]) [.cell 4 40] 14 Tryz.func14 (by kernel_rfl) rfl rfl rfl fun G => ?_
  refine W.initA (hw := ?_)
  repeat' (first | ((first | apply U_); (first | exact QX.B TYok | exact QX.Ext TYok | exact QCd (n1)); exact rfl) | refine SX.Alloc TYok (h := ?_) | refine SX.Store TYok (h := ?_) | refine SC ?_ | (refine W.condA (ht := fun hb => ?_) (hf := fun hb => ?_) <;> (try simp at hb) <;> (try (exfalso; omega))))
  all_goals exact FinM.ret ResM.auto
theorem same0_ok : ACalls Tryz.prog 10 [zF0, zF0] (.pv (cB true)) := by
  have s1 := sameBig_ok 0 0 [] [] (by simp) (by simp)
  rw [show (decide ((0 : Int) = 0) && decide (([] : List Int) = [])) = true by decide] at s1
  refine ACalls.of_W (qs := [cB true]) [4] 17 Tryz.func10 (by kernel_rfl) rfl rfl rfl fun G => ?_
  refine W.initA (hw := ?_)
  repeat' (first | ((first | apply U_ | (apply Ug_; exact rfl; exact rfl) | (apply Ugq_; exact rfl; exact rfl)); (first | exact QX.B TYok | exact QCd (s1)); exact rfl) | refine SX.Box TYok (h := ?_) | refine SC ?_ | (apply RG.gT; exact rfl; exact rfl; (first | assumption | decide)) | (apply RG.gF; exact rfl; exact rfl; (first | assumption | decide | (rw [ne_eq, Bool.not_eq_true]; assumption) | (rw [ne_eq, Bool.not_eq_false]; assumption)); exact rfl) | (refine W.condA (ht := fun hb => ?_) (hf := fun hb => ?_) <;> (try simp at hb) <;> (try (exfalso; omega))))
  all_goals exact Fin.ret ResL.auto
theorem sameV_ok (R : Rs) (h : R.fit) : ACalls Tryz.prog 10 [R.v, R.v] (.pv (cB true)) := by
  cases R with
  | ok r =>
    have := same_ok r r h h
    rwa [decide_eq_true rfl] at this
  | err e => exact same0_ok
def rN : Rat := Rat.divInt 300 1
def rM : Rat := Rat.divInt 100 1
def rA : Rat := Rat.divInt 1 20
def offQ : EnvQ := ⟨[[100, 101, 98, 116], [99, 97, 115, 104]], [rN, rM], [[97]], [rA]⟩
theorem ix {n : Int} (h : -1000 ≤ n ∧ n ≤ 1000) : i64B n := by unfold i64B; omega
theorem okC {n m : Int} (h : -1000 ≤ n ∧ n ≤ 1000) (hm : -1000 ≤ m ∧ m ≤ 1000) (h0 : m ≠ 0) : okF (Rat.divInt n m) := okF_of (i64_ok (ix h)) (i64_ok (ix hm)) h0
theorem offQ_ok : offQ.Ok := ⟨fun r hr => by
    rcases List.mem_cons.1 hr with rfl | hr
    · exact okC (by omega) (by omega) (by omega)
    · rw [List.mem_singleton.1 hr]; exact okC (by omega) (by omega) (by omega), fun r hr => by
    rw [List.mem_singleton.1 hr]; exact okC (by omega) (by omega) (by omega), rfl, rfl, by decide, by decide⟩
theorem office_ok : ACalls Tryz.prog 16 [] (.pv (vV offQ.V)) := by
  rw [vV_q]
  have o1 := of_ok 300 1 (ix (by omega)) (ix (by omega)) (by omega)
  have o2 := of_ok 100 1 (ix (by omega)) (ix (by omega)) (by omega)
  have o3 := of_ok 1 20 (ix (by omega)) (ix (by omega)) (by omega)
  show ACalls Tryz.prog 16 [] (.pv (.agg [.sl [encS [100, 101, 98, 116], encS [99, 97, 115, 104]], .sl [encQ rN, encQ rM], .sl [encS [97]], .sl [encQ rA]]))
  change ACalls Tryz.prog 14 _ (.pv (zF rN)) at o1
  change ACalls Tryz.prog 14 _ (.pv (zF rM)) at o2
  change ACalls Tryz.prog 14 _ (.pv (zF rA)) at o3
  generalize rN = r1 at *
  generalize rM = r2 at *
  generalize rA = r3 at *
  refine ACalls.of_M TYok (qs := [.agg [.sl [encS [100, 101, 98, 116], encS [99, 97, 115, 104]], .sl [encQ r1, encQ r2], .sl [encS [97]], .sl [encQ r3]]]) [.cell 0 29] 9 Tryz.func16 (by kernel_rfl) rfl rfl rfl fun G => ?_
  refine W.initA (hw := ?_)
  repeat' (first | ((first | apply U_); (first | (apply Q_litD TYok; apply EvR.cons Ev.auto; (repeat (first | exact EvR.nil | apply EvR.cons Ev.auto)); exact rfl; exact rfl; exact rfl; exact rfl; exact rfl; exact rfl) | exact QX.B TYok | exact QX.Build TYok | exact QCd (o1) | exact QCd (o2) | exact QCd (o3)); exact rfl) | refine SX.Alloc TYok (h := ?_) | refine SX.Store TYok (h := ?_) | refine SX.Lit TYok (h := ?_) | refine SC ?_ | (refine W.condA (ht := fun hb => ?_) (hf := fun hb => ?_) <;> (try simp at hb) <;> (try (exfalso; omega))))
  all_goals exact FinM.ret ResM.auto
end
end Go.Proofs.YtjedkgogjehigaaGreat
end
section
set_option linter.unusedVariables false
set_option linter.unusedSimpArgs false
set_option maxHeartbeats 8000000
set_option linter.unusedSectionVars false
namespace Go.Proofs.YtjedkgogjehigaaGreat
open Lf Go
attribute [local irreducible] PureOp EffOp Ev RG W Then InBlock Lf.Fin nth App InitE Pick SubE EvL EvD EvP EvR ResL Lf.Lex SubR SubBR EvC FinO FinM ResM ResD FinS val pw digs trimL
section
instance (x : Int) : Decidable (okZ x) := by unfold okZ; infer_instance
instance (a b : Rat) : Decidable (divOk a b) := by unfold divOk; infer_instance
instance (a b c d : Int) : Decidable (sumOk a b c d) := by unfold sumOk; infer_instance
instance (a b : Rat) : Decidable (addOk a b) := by unfold addOk; infer_instance
instance : DecidableEq Rs := fun a b => match a, b with
  | .ok x, .ok y => if h : x = y then isTrue (by rw [h]) else isFalse (fun e => h (by injection e))
  | .err x, .err y => if h : x = y then isTrue (by rw [h]) else isFalse (fun e => h (by injection e))
  | .ok _, .err _ => isFalse (fun e => by injection e)
  | .err _, .ok _ => isFalse (fun e => by injection e)
theorem bin4 (a b : Rat) : binF 4 a b = addR a b := by unfold binF; rw [if_pos rfl]
theorem bin7 (a b : Rat) : binF 7 a b = divR a b := by unfold binF; rw [if_neg (by omega), if_neg (by omega), if_neg (by omega), if_pos rfl]
theorem bin8 (a b : Rat) : binF 8 a b = .ok (if cmpR a b ≤ 0 then a else b) := by unfold binF; rw [if_neg (by omega), if_neg (by omega), if_neg (by omega), if_neg (by omega), if_pos rfl]
theorem bin9 (a b : Rat) : binF 9 a b = .ok (if cmpR a b ≤ 0 then b else a) := by unfold binF; rw [if_neg (by omega), if_neg (by omega), if_neg (by omega), if_neg (by omega), if_neg (by omega), if_pos rfl]
theorem bin10 (a b : Rat) : binF 10 a b = .ok (one01 (decide (cmpR a b < 0))) := by unfold binF; rw [if_neg (by omega), if_neg (by omega), if_neg (by omega), if_neg (by omega), if_neg (by omega), if_neg (by omega), if_pos rfl]
theorem bin11 (a b : Rat) : binF 11 a b = .ok (one01 (decide (cmpR a b = 0))) := by unfold binF; rw [if_neg (by omega), if_neg (by omega), if_neg (by omega), if_neg (by omega), if_neg (by omega), if_neg (by omega), if_neg (by omega), if_pos rfl]
theorem divR_yes {a b : Rat} (h0 : b.num ≠ 0) (h : divOk a b) : divR a b = .ok (a / b) := by unfold divR; rw [if_neg h0, if_pos h]
theorem divR_zero {a b : Rat} (h0 : b.num = 0) : divR a b = .err 15 := by unfold divR; rw [if_pos h0]
theorem addR_yes {a b : Rat} (h : addOk a b) : addR a b = .ok (a + b) := by unfold addR; rw [if_pos h]
theorem nth0 {α : Type} [Inhabited α] (x : α) (l : List α) : nth (x :: l) 0 = x := by rw [nth]; rfl
theorem nth1 {α : Type} [Inhabited α] (x y : α) (l : List α) : nth (x :: y :: l) 1 = y := by rw [nth]; rfl
theorem nth2 {α : Type} [Inhabited α] (x y z : α) (l : List α) : nth (x :: y :: z :: l) 2 = z := by rw [nth]; rfl
variable {lets : List Let} {en : EnvQ} {vs : List Rs}
theorem ev_num (n u : Int) (s : Str) (l : List Exp) : evF lets en vs (.mk 0 n u s l) = .ok (if u = 2 then Rat.divInt n 1000 else Rat.divInt n 1) := by rw [evF_mk, stepF, if_pos rfl]
theorem ev_name (n u : Int) (s : Str) (l : List Exp) : evF lets en vs (.mk 1 n u s l) = lookN lets vs s := by rw [evF_mk, stepF, if_neg (by omega), if_pos rfl]
theorem ev_fact (n u : Int) (s : Str) (l : List Exp) : evF lets en vs (.mk 2 n u s l) = lookF en.names en.vals s := by rw [evF_mk, stepF, if_neg (by omega), if_neg (by omega), if_pos rfl]
theorem ev_rate (n u : Int) (s : Str) (l : List Exp) : evF lets en vs (.mk 3 n u s l) = lookF en.iss en.rates s := by rw [evF_mk, stepF, if_neg (by omega), if_neg (by omega), if_neg (by omega), if_pos rfl]
theorem ev_two {op : Int} {a b : Exp} {p q : Rat} (h : 4 ≤ op ∧ op ≤ 11) (ha : evF lets en vs a = .ok p) (hb : evF lets en vs b = .ok q) : evF lets en vs (nodeE op a b) = binF op p q := by
  rw [nodeE, evF_mk, stepF, if_neg (by omega), if_neg (by omega), if_neg (by omega), if_neg (by omega), List.map_cons, List.map_cons, List.map_nil, nth0, ha]
  dsimp only
  rw [if_neg (by omega), if_neg (by omega), if_neg (by omega), nth1, hb]
theorem ev_if {c a b : Exp} : evF lets en vs (.mk 15 0 0 [] [c, a, b]) = match evF lets en vs c with | .err e => .err e | .ok w => if sgn w.num = 0 then evF lets en vs b else evF lets en vs a := by
  rw [evF_mk, stepF, if_neg (by omega), if_neg (by omega), if_neg (by omega), if_neg (by omega), List.map_cons, List.map_cons, List.map_cons, List.map_nil, nth0]
  cases evF lets en vs c with
  | err e => rfl
  | ok w => dsimp only; rw [if_neg (by omega), if_pos rfl, nth1, nth2]
abbrev kLever : Str := [108, 101, 118, 101, 114]
abbrev kDebt : Str := [100, 101, 98, 116]
abbrev kCash : Str := [99, 97, 115, 104]
abbrev fDebt : Exp := .mk 2 0 0 kDebt []
abbrev fCash : Exp := .mk 2 0 0 kCash []
def lev : Exp := nodeE 7 fDebt fCash
def lets0 : List Let := [⟨kLever, lev⟩]
abbrev nLever : Exp := .mk 1 0 0 kLever []
def x1 : Exp := nodeE 10 nLever (.mk 0 4 0 [] [])
def x2 : Exp := nodeE 4 (.mk 3 0 0 [97] []) (.mk 0 25 2 [] [])
def x3 : Exp := .mk 1 0 0 kCash []
def zeroE : Exp := nodeE 7 (.mk 0 1 0 [] []) (.mk 0 0 0 [] [])
def max2 : Exp := nodeE 9 nLever (.mk 0 2 0 [] [])
def x4 : Exp := .mk 15 0 0 [] [.mk 0 0 4 [] [], zeroE, max2]
theorem okLeaf {op n u : Int} {s : Str} (h : s.length ≤ 9223372036854775807) : OkE (.mk op n u s []) := .mk h (by simp) (fun x hx => by cases hx)
theorem ok_lev : OkE lev := okNode (okLeaf (by decide)) (okLeaf (by decide))
theorem ok_x1 : OkE x1 := okNode (okLeaf (by decide)) (okLeaf (by decide))
theorem ok_x2 : OkE x2 := okNode (okLeaf (by decide)) (okLeaf (by decide))
theorem ok_x3 : OkE x3 := okLeaf (by decide)
theorem ok_zero : OkE zeroE := okNode (okLeaf (by decide)) (okLeaf (by decide))
theorem ok_x4 : OkE x4 := .mk (by decide) (by decide) (fun x hx => by
  rcases List.mem_cons.1 hx with rfl | hx
  · exact okLeaf (by decide)
  rcases List.mem_cons.1 hx with rfl | hx
  · exact ok_zero
  rw [List.mem_singleton.1 hx]
  exact okNode (okLeaf (by decide)) (okLeaf (by decide)))
theorem stats : statF lev = true ∧ statF x1 = true ∧ statF x2 = true ∧ statF x3 = true ∧ statF zeroE = true ∧ statF x4 = true := by decide +kernel
theorem lets0_ok : LetsOk lets0 := ⟨by decide, fun y hy => by rw [List.mem_singleton.1 hy]; exact ⟨stats.1, ok_lev⟩⟩
theorem lev_val : evF lets0 offQ [] lev = .ok (Rat.divInt 3 1) := by
  have e1 : evF lets0 offQ [] fDebt = .ok rN := by rw [ev_fact]; decide +kernel
  have e2 : evF lets0 offQ [] fCash = .ok rM := by rw [ev_fact]; decide +kernel
  rw [lev, ev_two (by omega) e1 e2, bin7]
  rw [divR_yes (by decide +kernel) (by decide +kernel)]
  decide +kernel
theorem tab1 : tabF lets0 offQ 1 = [.ok (Rat.divInt 3 1)] := by
  rw [tabF, tabF, List.nil_append, show nth lets0 0 = ⟨kLever, lev⟩ from nth0 _ _, lev_val]
theorem name_val : evF lets0 offQ (tabF lets0 offQ 1) nLever = .ok (Rat.divInt 3 1) := by
  rw [ev_name, tab1]; decide +kernel
theorem val1 : valF lets0 offQ lets0.length x1 = .ok (Rat.divInt 1 1) := by
  rw [show lets0.length = 1 from rfl, valF, x1, ev_two (by omega) name_val (ev_num ..), bin10]
  decide +kernel
theorem val2 : valF lets0 offQ lets0.length x2 = .ok (Rat.divInt 3 40) := by
  have e1 : evF lets0 offQ (tabF lets0 offQ 1) (.mk 3 0 0 [97] []) = .ok rA := by rw [ev_rate]; decide +kernel
  rw [show lets0.length = 1 from rfl, valF, x2, ev_two (by omega) e1 (ev_num ..), bin4]
  rw [addR_yes (by decide +kernel)]
  decide +kernel
theorem val3 : valF lets0 offQ lets0.length x3 = .err 14 := by
  rw [show lets0.length = 1 from rfl, valF, x3, ev_name, tab1]
  decide +kernel
theorem val5 : valF lets0 offQ lets0.length zeroE = .err 15 := by
  rw [show lets0.length = 1 from rfl, valF, zeroE, ev_two (by omega) (ev_num ..) (ev_num ..), bin7]
  exact divR_zero (by decide +kernel)
theorem val4 : valF lets0 offQ lets0.length x4 = .ok (Rat.divInt 3 1) := by
  rw [show lets0.length = 1 from rfl, valF, x4, ev_if, ev_num]
  show (if _ then _ else _) = _
  rw [if_pos (by decide +kernel), max2, ev_two (by omega) name_val (ev_num ..), bin9]
  decide +kernel
end
end Go.Proofs.YtjedkgogjehigaaGreat
end
section
set_option linter.unusedVariables false
set_option linter.unusedSimpArgs false
set_option maxHeartbeats 8000000
set_option linter.unusedSectionVars false
namespace Go.Proofs.YtjedkgogjehigaaGreat
open Lf Go
attribute [local irreducible] PureOp EffOp Ev RG W Then InBlock Lf.Fin nth App InitE Pick SubE EvL EvD EvP EvR ResL Lf.Lex SubR SubBR EvC FinO FinM ResM ResD FinS val pw digs trimL
section
attribute [local irreducible] sgn mag gcdZ quoZ remZ fullZ fullE
theorem leaf_sub {op n u : Int} {s : Str} : PSub (.agg [.int .i64 op, .int .i64 n, .int .i64 u, .str s, .slnil]) (.agg [.int .i64 op, .int .i64 n, .int .i64 u, .str s, .sl []]) := ⟨.refl _, .refl _, .refl _, .refl _, .nil, trivial⟩
theorem Q_leaf {P : Program} {G : Ghost} {A : St} {o : Oper} {p : Prop} {op n u : Int} {s : Str} (h : PureOp P G A o p (.pv (.agg [.int .i64 op, .int .i64 n, .int .i64 u, .str s, .slnil]))) : PureOp P G A o p (.pv (.agg [.int .i64 op, .int .i64 n, .int .i64 u, .str s, .sl []])) :=
  PureOp.conv h fun Φ β a w hs Φ' v h => by
    have h' : PRel Φ' v (.agg [.int .i64 op, .int .i64 n, .int .i64 u, .str s, .slnil]) := h
    exact h'.sub leaf_sub
theorem vcall {e : Exp} {R : Rs} (hst : statF e = true) (he : OkE e) (h : valF lets0 offQ lets0.length e = R) : ACalls Tryz.prog 7 [xV lets0, aE e, vV offQ.V] (resP R) := by
  rw [← h]
  exact value_yes lets0_ok offQ_ok hst he
theorem aE_leaf (op n u : Int) (s : Str) : aE (.mk op n u s []) = .agg [.int .i64 op, .int .i64 n, .int .i64 u, .str s, .sl []] := aE_mk ..
theorem small_ok : ACalls Tryz.prog 5 [] (.pv (cB true)) := by
  obtain ⟨t1, t2, t3, t4, t5, t6⟩ := stats
  have v1 := vcall t2 ok_x1 val1
  have v2 := vcall t3 ok_x2 val2
  have v3 := vcall t4 ok_x3 val3
  have v4 := vcall t6 ok_x4 val4
  have v5 := vcall t5 ok_zero val5
  have n1 : ACalls Tryz.prog 15 [cI 7, aE fDebt, aE fCash] (.pv (aE lev)) := node_ok 7 fDebt fCash
  have n2 : ACalls Tryz.prog 15 [cI 10, aE nLever, aE (.mk 0 4 0 [] [])] (.pv (aE x1)) := node_ok 10 _ _
  have n3 : ACalls Tryz.prog 15 [cI 4, aE (.mk 3 0 0 [97] []), aE (.mk 0 25 2 [] [])] (.pv (aE x2)) := node_ok 4 _ _
  have n4 : ACalls Tryz.prog 15 [cI 7, aE (.mk 0 1 0 [] []), aE (.mk 0 0 0 [] [])] (.pv (aE zeroE)) := node_ok 7 _ _
  have n5 : ACalls Tryz.prog 15 [cI 9, aE nLever, aE (.mk 0 2 0 [] [])] (.pv (aE max2)) := node_ok 9 _ _
  have o := office_ok
  have en := env_ok offQ.V
  have f1 := of_ok 1 1 (ix (by omega)) (ix (by omega)) (by omega)
  have f2 := of_ok 3 40 (ix (by omega)) (ix (by omega)) (by omega)
  have f3 := of_ok 3 1 (ix (by omega)) (ix (by omega)) (by omega)
  have q1 := sameV_ok (.ok (Rat.divInt 1 1)) (okC (by omega) (by omega) (by omega))
  have q2 := sameV_ok (.ok (Rat.divInt 3 40)) (okC (by omega) (by omega) (by omega))
  have q3 := sameV_ok (.ok (Rat.divInt 3 1)) (okC (by omega) (by omega) (by omega))
  replace q1 : ACalls Tryz.prog 10 [zF (Rat.divInt 1 1), zF (Rat.divInt 1 1)] (.pv (cB true)) := q1
  replace q2 : ACalls Tryz.prog 10 [zF (Rat.divInt 3 40), zF (Rat.divInt 3 40)] (.pv (cB true)) := q2
  replace q3 : ACalls Tryz.prog 10 [zF (Rat.divInt 3 1), zF (Rat.divInt 3 1)] (.pv (cB true)) := q3
  replace v1 : ACalls Tryz.prog 7 _ (.tup [zF (Rat.divInt 1 1), cI 0]) := v1
  replace v2 : ACalls Tryz.prog 7 _ (.tup [zF (Rat.divInt 3 40), cI 0]) := v2
  replace v3 : ACalls Tryz.prog 7 _ (.tup [zF0, cI 14]) := v3
  replace v4 : ACalls Tryz.prog 7 _ (.tup [zF (Rat.divInt 3 1), cI 0]) := v4
  replace v5 : ACalls Tryz.prog 7 _ (.tup [zF0, cI 15]) := v5
  rw [show xV lets0 = .agg [.str [], .str [], .int .i64 0, .int .i64 0, .int .i64 0, .int .i64 0, .int .i64 0, .int .i64 0, .int .i64 0, .int .i64 0, .sl [.str kLever :: encX lev], .int .i64 0, .int .i64 0, .int .i64 0, .str [], .slnil, .int .i64 0, .slnil, .slnil, .int .i64 0, .slnil, .int .i64 0, .int .i64 0, .int .i64 0, .int .i64 0] from rfl] at v1 v2 v3 v4 v5
  rw [show aE x4 = .agg [.int .i64 15, .int .i64 0, .int .i64 0, .str [], .sl [encX (.mk 0 0 4 [] []), encX zeroE, encX max2]] from aE_mk ..] at v4
  rw [show aE x3 = .agg [.int .i64 1, .int .i64 0, .int .i64 0, .str kCash, .sl []] from aE_mk ..] at v3
  rw [aE_leaf, aE_leaf] at n1 n2 n3 n4 n5
  rw [show encX (.mk 0 0 4 [] []) = [.int .i64 0, .int .i64 0, .int .i64 4, .str [], .sl []] from rfl] at v4
  change ACalls Tryz.prog 15 _ (.pv (.agg (encX lev))) at n1
  change ACalls Tryz.prog 15 _ (.pv (.agg (encX x1))) at n2
  change ACalls Tryz.prog 15 _ (.pv (.agg (encX x2))) at n3
  change ACalls Tryz.prog 15 _ (.pv (.agg (encX zeroE))) at n4
  change ACalls Tryz.prog 15 _ (.pv (.agg (encX max2))) at n5
  generalize offQ.V = V at *
  obtain ⟨V1, V2, V3, V4⟩ := V
  generalize Rat.divInt 1 1 = r1 at *
  generalize Rat.divInt 3 40 = r2 at *
  generalize Rat.divInt 3 1 = r3 at *
  have sp : ∀ e : Exp, ∃ (a b c : Int) (s : Str) (l : List (List Cell)), encX e = [.int .i64 a, .int .i64 b, .int .i64 c, .str s, .sl l] := fun e => ⟨_, _, _, _, _, rfl⟩
  obtain ⟨l1, l2, l3, l4, l5, hlev⟩ := sp lev
  obtain ⟨a1, a2, a3, a4, a5, hx1⟩ := sp x1
  obtain ⟨b1, b2, b3, b4, b5, hx2⟩ := sp x2
  obtain ⟨c1, c2, c3, c4, c5, hz⟩ := sp zeroE
  obtain ⟨d1, d2, d3, d4, d5, hm⟩ := sp max2
  rw [show aE x1 = .agg (encX x1) from rfl, hx1] at v1
  rw [show aE x2 = .agg (encX x2) from rfl, hx2] at v2
  rw [show aE zeroE = .agg (encX zeroE) from rfl, hz] at v5
  rw [hlev] at n1 v1 v2 v3 v4 v5
  rw [hx1] at n2
  rw [hx2] at n3
  rw [hz] at n4 v4
  rw [hm] at n5 v4
  clear sp hlev hx1 hx2 hz hm t1 t2 t3 t4 t5 t6
  refine ACalls.of_W (qs := [cB true]) [0] 111 Tryz.func5 (by kernel_rfl) rfl rfl rfl fun G => ?_
  refine W.initA (hw := ?_)
  repeat' (first | ((first | apply U_ | (apply Ug_; exact rfl; exact rfl) | (apply Ugq_; exact rfl; exact rfl) | apply Lex.u | (apply Lex.g; exact rfl; exact rfl) | (apply Lex.gq; exact rfl; exact rfl)); (first | (apply Q_leaf; exact QX.Build TYok) | (apply Q_litD TYok; apply EvR.cons Ev.auto; (repeat (first | exact EvR.nil | apply EvR.cons Ev.auto)); exact rfl; exact rfl; exact rfl; exact rfl; exact rfl; exact rfl) | exact QX.B TYok | exact QX.Ext TYok | exact QX.Build TYok | exact QCd (n1) | exact QCd (n2) | exact QCd (n3) | exact QCd (n4) | exact QCd (n5) | exact QCd (o) | exact QCd (en) | exact QCd (v1) | exact QCd (v2) | exact QCd (v3) | exact QCd (v4) | exact QCd (v5) | exact QCd (f1) | exact QCd (f2) | exact QCd (f3) | exact QCd (q1) | exact QCd (q2) | exact QCd (q3)); exact rfl) | refine SX.Alloc TYok (h := ?_) | refine SX.Store TYok (h := ?_) | refine SX.Lit TYok (h := ?_) | refine SC ?_ | (apply S_isnil TYok; exact rfl; exact rfl; exact rfl; exact Ev.auto; intro bn hnil) | (apply RG.gT; exact rfl; exact rfl; (first | assumption | decide)) | (apply RG.gF; exact rfl; exact rfl; (first | assumption | decide | (rw [ne_eq, Bool.not_eq_true]; assumption) | (rw [ne_eq, Bool.not_eq_false]; assumption)); exact rfl) | apply LexS.nil | (apply LexS.f; exact rfl; (first | (apply FreshV.alloc TYok; exact rfl; exact rfl; exact rfl; exact rfl) | (apply FreshV.lit TYok; (repeat (first | exact EvR.nil | apply EvR.cons Ev.auto)); exact rfl; exact rfl; exact rfl; exact rfl; exact rfl; exact rfl; exact rfl; exact rfl; exact rfl) | (apply FreshV.box; exact Ev.auto; exact rfl; exact rfl; exact rfl)); exact rfl; exact rfl; exact rfl) | (apply LexS.s; exact rfl; exact rfl; (apply StoreV.mk TYok; exact Ev.auto; exact Ev.auto; exact rfl; exact rfl; exact rfl; exact rfl; exact rfl)) | ((first | apply LexS.u | (apply LexS.g; exact rfl; exact rfl) | (apply LexS.gq; exact rfl; exact rfl)); (repeat (first | (apply NB.cons; exact rfl) | exact NB.nil rfl)); (first | (apply Q_leaf; exact QX.Build TYok) | (apply Q_litD TYok; apply EvR.cons Ev.auto; (repeat (first | exact EvR.nil | apply EvR.cons Ev.auto)); exact rfl; exact rfl; exact rfl; exact rfl; exact rfl; exact rfl) | exact QX.B TYok | exact QX.Ext TYok | exact QX.Build TYok | exact QCd (n1) | exact QCd (n2) | exact QCd (n3) | exact QCd (n4) | exact QCd (n5) | exact QCd (o) | exact QCd (en) | exact QCd (v1) | exact QCd (v2) | exact QCd (v3) | exact QCd (v4) | exact QCd (v5) | exact QCd (f1) | exact QCd (f2) | exact QCd (f3) | exact QCd (q1) | exact QCd (q2) | exact QCd (q3)); exact rfl; exact rfl; exact rfl) | (apply W.draw2 (id := 10) [0, 0, 3, 7, 15, 31, 63, 127, 255, 255, 1023, 2047, 4095, 8191, 16383, 32767, 65535] [[4], [], [77, 78], [79], [5, 80], [81, 80], [80, 82], [83], [6, 84], [84], [85, 86, 84], [84, 87], [88], [7, 89], [90, 89], [89, 91], [92]] 17 [(77, 16), (78, 0), (79, 453347182355485940514816), (80, 604462909807314587353088), (81, 1208925819614629174706208), (82, 3626777458843887524118528), (83, 6044629098073145873530880), (84, 9671406556917033397649408), (85, 19342813113834066795298880), (86, 19342813113834066795298816), (87, 135399691796838467567091712), (88, 174085318024506601157689344), (89, 309485009821345068724781056), (90, 618970019642690137449562240), (91, 1856910058928070412348686336), (92, 3094850098213450687247810560), (15, 4951760157141521099596496896)] mixed (by kernel_rfl) rfl rfl) | (apply W.draw2 (id := 11) [0, 1, 3, 7, 15, 31, 63, 63, 255, 511, 1023, 2047, 4095, 8191, 16383, 32767, 65535, 131071, 262143] [[15], [93], [9, 94], [95, 94], [94, 96], [97], [11, 98], [98], [99, 100, 98], [98, 101], [102], [12, 103], [104, 103], [103, 105], [106], [14, 107], [108, 107], [107, 109], [110]] 19 [(93, 32768), (94, 9903520314283042199192993792), (95, 19807040628566084398385988096), (96, 59421121885698253195157962752), (97, 99035203142830421991929937920), (98, 158456325028528675187087900672), (99, 316912650057057350374175803392), (100, 316912650057057350374175801344), (101, 2218388550399401452619230609408), (102, 2852213850513516153367582212096), (103, 5070602400912917605986812821504), (104, 10141204801825835211973625647104), (105, 30423614405477505635920876929024), (106, 50706024009129176059868128215040), (107, 81129638414606681695789005144064), (108, 162259276829213363391578010304512), (109, 486777830487640090174734030864384), (110, 811296384146066816957890051440640), (0, 1298074214633706907132624082305024)] mixed (by kernel_rfl) rfl rfl) | (refine W.drawS (id := 4) [0, 0, 0, 6, 14, 30, 63, 127, 255, 255, 0, 1535, 4095] [[2], [3], [], [26, 27], [], [29], [25, 28, 30], [31], [24], [24], [], [4, 32], [33]] [(11, (4, ?_)), (10, (4, ?_))] [(11, 4), (10, 4)] mixed (by kernel_rfl) rfl ?_; rotate_left 2) | (refine W.drawS (id := 5) [0, 0, 0, 6, 14, 30, 63, 127, 255, 255, 0, 1535, 4095] [[2], [], [], [36, 37], [], [39], [35, 38, 40], [41], [34], [34], [], [6, 42], [43]] [(11, (6, ?_)), (10, (6, ?_))] [(11, 6), (10, 6)] mixed (by kernel_rfl) rfl ?_; rotate_left 2) | (refine W.drawS (id := 6) [0, 0, 0, 4, 15, 31, 63, 63, 0, 383, 1023] [[2], [], [], [47], [45, 46, 48], [49], [44], [44], [], [8, 50], [51]] [(9, (8, ?_)), (8, (8, ?_))] [(9, 8), (8, 8)] mixed (by kernel_rfl) rfl ?_; rotate_left 2) | (refine W.drawS (id := 8) [0, 0, 0, 0, 0, 24, 62, 126, 56, 312, 1023, 2047, 4095, 4095, 0, 24575, 65535] [[2], [], [10], [3], [], [59, 60], [57, 58, 61], [62], [], [64], [56, 63, 65], [66], [55], [55], [], [11, 67], [68]] [(15, (11, ?_)), (14, (11, ?_))] [(15, 11), (14, 11)] mixed (by kernel_rfl) rfl ?_; rotate_left 2) | (refine W.drawS (id := 9) [0, 0, 0, 4, 15, 31, 63, 63, 0, 383, 1023] [[2], [10], [], [72], [70, 71, 73], [74], [69], [69], [], [13, 75], [76]] [(9, (13, ?_)), (8, (13, ?_))] [(9, 13), (8, 13)] mixed (by kernel_rfl) rfl ?_; rotate_left 2) | (refine W.condA (ht := fun hb => ?_) (hf := fun hb => ?_) <;> (try simp at hb) <;> (try (exfalso; omega))))
  all_goals first
    | exact Fin.ret ResL.auto
    | trace_state
end
end Go.Proofs.YtjedkgogjehigaaGreat
end
