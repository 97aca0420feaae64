/-
  WatchDual
-/
import Derived.Test.YtacilhkipekjlaaLaw2
import Derived.Test.YtacilhkipekjlaaGrows
set_option linter.unusedVariables false
set_option linter.unusedSimpArgs false
set_option maxHeartbeats 8000000
namespace Go.Proofs.Ytacilhkipekjlaa
open Lf Go
attribute [local irreducible] PureOp EffOp Ev RG W Then InBlock Lf.Fin nth App InitE Pick SubE SubF SubG EvL EvD EvP EvR ResL Lf.Lex SubR SubBR RA RAll EvC FinO FinM ResM FinB ResD

/-! ### WatchDual -/
theorem okTwo {op : Int} {e : Exp} (h : OkE e) : OkE (twoE op e) := .mk (by decide) (by simp) (fun x hx => by
  rcases List.mem_cons.1 hx with rfl | hx
  · exact h
  · rw [List.mem_singleton.1 hx]; exact h)
theorem run_fit {e : Exp} {us : List Exp} {ts : List (List Int)} {days : Int} (h1 : rightF 12 e = true) (h2 : listF e = us) (h3 : restF us ts days = true) : runF e ts days = (nodeF days e ts, 0) := by
  rw [runF, if_pos (by rw [fit_rest h1 h2]; exact h3)]
theorem run_unfit {e : Exp} {us : List Exp} {ts : List (List Int)} {days : Int} (h1 : rightF 12 e = true) (h2 : listF e = us) (h3 : restF us ts days = false) : runF e ts days = ([], 1) := by
  rw [runF, if_neg (by rw [fit_rest h1 h2, h3]; decide)]
theorem aE_two (op : Int) (e : Exp) : aE (twoE op e) = .agg [.int .i64 op, .int .i64 0, .int .i64 0, .str [], .sl [encX e, encX e]] := aE_mk ..
set_option maxRecDepth 10000 in
theorem dual_ok (e : Exp) (ts : List (List Int)) (days w : Int) (hw : 0 ≤ w ∧ w ≤ 255) (he : OkE e) (ht : ts.length ≤ 9223372036854775807) : ACalls Try.prog 6 [aE e, slR ts, cI days, c8 w] (.pv (cB true)) := by
  have h0 := small_ok
  have h1 := fewE_ok e he
  have h2 := fewT_ok ts ht
  have hno : OkE (overE 12 0 e) := okOver he
  have o1 := overE_ok 12 0 e
  have o2 := overE_ok 12 0 (overE 12 0 e)
  have o3 := overE_ok 12 0 (overE 12 0 (overE 12 0 e))
  have h3 := rightExp_ok (overE 12 0 (overE 12 0 (overE 12 0 e))) (okOver (okOver hno))
  by_cases hc : countF 12 e ≤ 60 ∧ fewF ts = true ∧ (ts.length : Int) ≤ 4 ∧ days ≤ 20 ∧ rightF 12 (overE 12 0 (overE 12 0 (overE 12 0 e))) = true
  case neg =>
    refine ACalls.of_W (qs := [cB true]) [8] 229 Try.func6 (by kernel_rfl) rfl rfl rfl fun G => ?_
    refine W.initA (hw := ?_)
    repeat' (first
      | apply RG.nil
      | apply Lex.nil
      | apply Then.n
      | apply Then.r
      | apply Then.x
      | apply InBlock.n
      | apply InBlock.r
      | apply InBlock.hit
      | (apply InBlock.miss; exact rfl)
      | apply W.seq
      | apply W.region
      | apply W.block
      | apply W.skip
      | apply W.ret
      | apply W.exit
      | (apply W.draw2 (id := 22) [0, 0, 3, 7, 0, 0, 63, 0, 0, 511, 1023, 2047, 2047, 4095, 16383] [[22], [23], [139, 140], [141], [10], [4], [142, 143, 144], [1], [2], [145, 146, 147], [148], [138], [138], [149], [150]] 15 [(139, 4194304), (140, 8388608), (141, 2090694862362245919518973588060783891185664), (142, 2787593149816327892691964784081045188247552), (143, 1024), (144, 16), (145, 39026304097428590497687506977134632635465728), (146, 2), (147, 4), (148, 312210432779428723981500055817077061083725824), (138, 356811923176489970264571492362373784095686656), (149, 348449143727040986586495598010130648530944), (150, 348449143727040986586495598010130648530944), (24, 713623846352979940529142984724747568191373312), (25, 1427247692705959881058285969449495136382746624)] mixed (by kernel_rfl) rfl rfl)
      | (apply W.draw2 (id := 23) [0, 0, 3, 7, 0, 16, 0, 127, 0, 0, 1023, 2047, 4095, 4095, 8191, 32767] [[22], [23], [152, 153], [154], [10], [156], [4], [155, 157, 158], [1], [2], [159, 160, 161], [162], [151], [151], [163], [164]] 16 [(152, 4194304), (153, 8388608), (154, 17126972312471518572699431633393941636592959488), (155, 22835963083295358096932575511191922182123945984), (156, 1024), (157, 91343852333181432387730302044767688728495783936), (158, 16), (159, 593735040165679310520246963290989976735222595584), (160, 2), (161, 4), (162, 5115255730658160213712896914506990568795763900416), (151, 5846006549323611672814739330865132078623730171904), (163, 2854495385411919762116571938898990272765493248), (164, 2854495385411919762116571938898990272765493248), (26, 11692013098647223345629478661730264157247460343808), (27, 23384026197294446691258957323460528314494920687616)] mixed (by kernel_rfl) rfl rfl)
      | ((first | apply U_ | (apply Ug_; exact rfl; exact rfl) | (apply Ugq_; exact rfl; exact rfl) | apply Lex.u | (apply Lex.g; exact rfl; exact rfl) | (apply Lex.gq; exact rfl; exact rfl)); (first
    | exact QX.Move TYok
    | exact QX.Asg TYok
    | exact QX.Ld TYok
    | exact QX.Bin TYok
    | exact QX.Pick TYok
    | exact QX.Un TYok
    | exact QX.Len TYok
    | exact QX.Idx TYok
    | exact QX.Ext TYok
    | exact QX.Conv TYok
    | exact QX.Build TYok
    | (apply Q_calld (h0); exact EvD.auto)
    | (apply Q_calld (h1); exact EvD.auto)
    | (apply Q_call (h2); exact EvL.auto; exact rfl)
    | (apply Q_calld (o1); exact EvD.auto)
    | (apply Q_calld (o2); exact EvD.auto)
    | (apply Q_calld (o3); exact EvD.auto)
    | (apply Q_calld (h3); exact EvD.auto)); exact rfl)
      | refine SX.Alloc TYok (h := ?_)
      | refine SX.Store TYok (h := ?_)
      | refine SX.Lit TYok (h := ?_)
      | refine SX.App TYok (h := ?_)
      | refine SX.Box TYok (h := ?_)
      | (apply S_isnil TYok; exact rfl; exact rfl; exact rfl; exact Ev.auto; intro bn hnil)
      | (apply RG.gT; exact rfl; exact rfl; (first | assumption | decide))
      | (apply RG.gF; exact rfl; exact rfl; (first | assumption | decide | (rw [ne_eq, Bool.not_eq_true]; assumption) | (rw [ne_eq, Bool.not_eq_false]; assumption)); exact rfl)
      | (refine W.condA (ht := fun hb => ?_) (hf := fun hb => ?_) <;> (try simp at hb) <;> (try (exfalso; omega))))
    · exact Fin.ret ResL.auto
    all_goals (exfalso; apply hc; simp_all; done)
  obtain ⟨w1, w2, w5, w4, w3⟩ := hc
  rw [decide_eq_true w1] at h1
  rw [w2] at h2
  rw [w3] at h3
  have hr9 : rightF 9 e = true := by rw [right_not, right_not, right_not] at w3; exact w3
  have hr10 : rightF 10 e = true := rightF_le (by omega) hr9
  have hr11 : rightF 11 e = true := rightF_le (by omega) hr9
  obtain ⟨k, hk⟩ : ∃ k : Int, 1 + w % 30 = k := ⟨_, rfl⟩
  have hkb : 1 ≤ k ∧ k ≤ 30 := by omega
  obtain ⟨x1, x2⟩ := few_mem w2
  have hcl : ((listF e).length : Int) ≤ 60 := by have := count_atoms 12 e w1; omega
  have f12 : framedF 12 = true := by decide
  have f16 : framedF 16 = true := by decide
  have f17 : framedF 17 = true := by decide
  have f13 : framedF 13 = true := by decide
  have f14 : framedF 14 = true := by decide
  have le1 : listF (overE 12 0 (overE 16 k e)) = listF e := by rw [listF_over f12, listF_over f16]
  have le2 : listF (overE 17 k (overE 12 0 e)) = listF e := by rw [listF_over f17, listF_over f12]
  have re1 : rightF 12 (overE 12 0 (overE 16 k e)) = true := by rw [right_not, right_time (by omega) (by omega)]; exact hr10
  have re2 : rightF 12 (overE 17 k (overE 12 0 e)) = true := by rw [right_time (by omega) (by omega), right_not]; exact hr10
  have o4 := overE_ok 16 k e
  have o5 := overE_ok 12 0 (overE 16 k e)
  have o6 := overE_ok 17 k (overE 12 0 e)
  have h4 := run_ok (overE 12 0 (overE 16 k e)) ts days (okOver (okOver he)) (by rw [le1]; omega) (by omega) (fun t h => by have := x2 t h; omega)
  have h5 := run_ok (overE 17 k (overE 12 0 e)) ts days (okOver hno) (by rw [le2]; omega) (by omega) (fun t h => by have := x2 t h; omega)
  cases hfit : restF (listF e) ts days with
  | false =>
    rw [run_unfit re1 le1 hfit] at h4
    rw [run_unfit re2 le2 hfit] at h5
    have h6 := ints_ok [] [] (by simp) (by simp)
    rw [decide_eq_true rfl] at h6
    replace h4 : ACalls Try.prog 10 [aE (overE 12 0 (overE 16 k e)), slR ts, cI days] (.tup [slI [], cI 1]) := h4
    replace h5 : ACalls Try.prog 10 [aE (overE 17 k (overE 12 0 e)), slR ts, cI days] (.tup [slI [], cI 1]) := h5
    subst hk
    refine ACalls.of_W (qs := [cB true]) [8] 229 Try.func6 (by kernel_rfl) rfl rfl rfl fun G => ?_
    refine W.initA (hw := ?_)
    repeat' (first
      | apply RG.nil
      | apply Lex.nil
      | apply Then.n
      | apply Then.r
      | apply Then.x
      | apply InBlock.n
      | apply InBlock.r
      | apply InBlock.hit
      | (apply InBlock.miss; exact rfl)
      | apply W.seq
      | apply W.region
      | apply W.block
      | apply W.skip
      | apply W.ret
      | apply W.exit
      | (apply W.draw2 (id := 22) [0, 0, 3, 7, 0, 0, 63, 0, 0, 511, 1023, 2047, 2047, 4095, 16383] [[22], [23], [139, 140], [141], [10], [4], [142, 143, 144], [1], [2], [145, 146, 147], [148], [138], [138], [149], [150]] 15 [(139, 4194304), (140, 8388608), (141, 2090694862362245919518973588060783891185664), (142, 2787593149816327892691964784081045188247552), (143, 1024), (144, 16), (145, 39026304097428590497687506977134632635465728), (146, 2), (147, 4), (148, 312210432779428723981500055817077061083725824), (138, 356811923176489970264571492362373784095686656), (149, 348449143727040986586495598010130648530944), (150, 348449143727040986586495598010130648530944), (24, 713623846352979940529142984724747568191373312), (25, 1427247692705959881058285969449495136382746624)] mixed (by kernel_rfl) rfl rfl)
      | (apply W.draw2 (id := 23) [0, 0, 3, 7, 0, 16, 0, 127, 0, 0, 1023, 2047, 4095, 4095, 8191, 32767] [[22], [23], [152, 153], [154], [10], [156], [4], [155, 157, 158], [1], [2], [159, 160, 161], [162], [151], [151], [163], [164]] 16 [(152, 4194304), (153, 8388608), (154, 17126972312471518572699431633393941636592959488), (155, 22835963083295358096932575511191922182123945984), (156, 1024), (157, 91343852333181432387730302044767688728495783936), (158, 16), (159, 593735040165679310520246963290989976735222595584), (160, 2), (161, 4), (162, 5115255730658160213712896914506990568795763900416), (151, 5846006549323611672814739330865132078623730171904), (163, 2854495385411919762116571938898990272765493248), (164, 2854495385411919762116571938898990272765493248), (26, 11692013098647223345629478661730264157247460343808), (27, 23384026197294446691258957323460528314494920687616)] mixed (by kernel_rfl) rfl rfl)
      | ((first | apply U_ | (apply Ug_; exact rfl; exact rfl) | (apply Ugq_; exact rfl; exact rfl) | apply Lex.u | (apply Lex.g; exact rfl; exact rfl) | (apply Lex.gq; exact rfl; exact rfl)); (first
    | (apply Q_add; exact Ev.auto; exact Ev.auto; (constructor <;> omega))
    | exact QX.Move TYok
    | exact QX.Asg TYok
    | exact QX.Ld TYok
    | exact QX.Bin TYok
    | exact QX.Pick TYok
    | exact QX.Un TYok
    | exact QX.Len TYok
    | exact QX.Idx TYok
    | exact QX.Ext TYok
    | exact QX.Conv TYok
    | exact QX.Build TYok
    | (apply Q_calld (h0); exact EvD.auto)
    | (apply Q_calld (h1); exact EvD.auto)
    | (apply Q_call (h2); exact EvL.auto; exact rfl)
    | (apply Q_calld (o1); exact EvD.auto)
    | (apply Q_calld (o2); exact EvD.auto)
    | (apply Q_calld (o3); exact EvD.auto)
    | (apply Q_calld (h3); exact EvD.auto)
    | (apply Q_calld (o4); exact EvD.auto)
    | (apply Q_calld (o5); exact EvD.auto)
    | (apply Q_calld (o6); exact EvD.auto)
    | (apply Q_calld (h4); exact EvD.auto)
    | (apply Q_calld (h5); exact EvD.auto)
    | (apply Q_calld (h6); exact EvD.auto)); exact rfl)
      | refine SX.Alloc TYok (h := ?_)
      | refine SX.Store TYok (h := ?_)
      | refine SX.Lit TYok (h := ?_)
      | refine SX.App TYok (h := ?_)
      | refine SX.Box TYok (h := ?_)
      | (apply S_isnil TYok; exact rfl; exact rfl; exact rfl; exact Ev.auto; intro bn hnil)
      | (apply RG.gT; exact rfl; exact rfl; (first | assumption | decide))
      | (apply RG.gF; exact rfl; exact rfl; (first | assumption | decide | (rw [ne_eq, Bool.not_eq_true]; assumption) | (rw [ne_eq, Bool.not_eq_false]; assumption)); exact rfl)
      | (refine W.condA (ht := fun hb => ?_) (hf := fun hb => ?_) <;> (try simp at hb) <;> (try (exfalso; omega))))
    exact Fin.ret ResL.auto
  | true =>
    have hrest := hfit
    simp only [restF, Bool.and_eq_true, decide_eq_true_iff] at hrest
    obtain ⟨⟨⟨⟨g2, g3⟩, g4⟩, g5⟩, g6⟩ := hrest
    have hrows : Rows days ts := fit_rows (e := e) g6
    have hlen : ∀ op k', framedF op = true → ((nodeF days (overE op k' e) ts).length : Int) = days := fun op k' hf => by rw [nodeF_over hf]; simp; omega
    have hl0 : ((nodeF days e ts).length : Int) = days := nodeF_len g2 hrows (by omega)
    have B2 := rest_twice hfit
    have le3 : listF (overE 12 0 (twoE 13 e)) = listF e ++ listF e := by rw [listF_over f12, listF_two f13]
    have le4 : listF (twoE 14 (overE 12 0 e)) = listF e ++ listF e := by rw [listF_two f14, listF_over f12]
    have re3 : rightF 12 (overE 12 0 (twoE 13 e)) = true := by rw [right_not, right_two (by omega)]; exact hr10
    have re4 : rightF 12 (twoE 14 (overE 12 0 e)) = true := by rw [right_two (by omega), right_not]; exact hr10
    have o7 := overE_ok 12 0 (twoE 13 e)
    have h7 := run_ok (overE 12 0 (twoE 13 e)) (ts ++ ts) days (okOver (okTwo he)) (by rw [le3, List.length_append]; omega) (by rw [List.length_append]; omega) (fun t h => by have := x2 t (by simpa using h); omega)
    have h8 := run_ok (twoE 14 (overE 12 0 e)) (ts ++ ts) days (okTwo hno) (by rw [le4, List.length_append]; omega) (by rw [List.length_append]; omega) (fun t h => by have := x2 t (by simpa using h); omega)
    rw [aE_two] at o7 h8
    have etw : slR (ts ++ ts) = .one (.sl ([] ++ List.map encR ts ++ List.map encR ts)) := by simp
    rw [etw] at h7 h8
    rw [run_fit re1 le1 hfit] at h4
    rw [run_fit re2 le2 hfit, ← dual_ever g2 hl0] at h5
    rw [run_fit re3 le3 B2] at h7
    rw [run_fit re4 le4 B2, ← dual_two g2 g5 hl0] at h8
    have la : ((nodeF days (overE 12 0 (overE 16 k e)) ts).length : Int) = days := by rw [nodeF_over f12]; simp; omega
    have lc : ((nodeF days (overE 12 0 (twoE 13 e)) (ts ++ ts)).length : Int) = days := by rw [nodeF_over f12]; simp; omega
    generalize nodeF days (overE 12 0 (overE 16 k e)) ts = a at h4 h5 la
    generalize nodeF days (overE 12 0 (twoE 13 e)) (ts ++ ts) = c at h7 h8 lc
    replace h4 : ACalls Try.prog 10 [aE (overE 12 0 (overE 16 k e)), slR ts, cI days] (.tup [slI a, cI 0]) := h4
    replace h5 : ACalls Try.prog 10 [aE (overE 17 k (overE 12 0 e)), slR ts, cI days] (.tup [slI a, cI 0]) := h5
    replace h7 : ACalls Try.prog 10 [aE (overE 12 0 (twoE 13 e)), .one (.sl ([] ++ List.map encR ts ++ List.map encR ts)), cI days] (.tup [slI c, cI 0]) := h7
    replace h8 : ACalls Try.prog 10 [.agg [.int .i64 14, .int .i64 0, .int .i64 0, .str [], .sl [encX (overE 12 0 e), encX (overE 12 0 e)]], .one (.sl ([] ++ List.map encR ts ++ List.map encR ts)), cI days] (.tup [slI c, cI 0]) := h8
    have h6 := ints_ok a a (by omega) (by omega)
    rw [decide_eq_true rfl] at h6
    have h9 := ints_ok c c (by omega) (by omega)
    rw [decide_eq_true rfl] at h9
    subst hk
    refine ACalls.of_W (qs := [cB true]) [8] 229 Try.func6 (by kernel_rfl) rfl rfl rfl fun G => ?_
    refine W.initA (hw := ?_)
    repeat' (first
      | (refine W.weaken (Le.freeze1 (m := 97) rfl) ?_)
      | (refine RG.weaken (Le.freeze1 (m := 101) rfl) ?_)
      | (refine RG.weaken (Le.freeze1 (m := 112) rfl) ?_)
      | apply RG.nil
      | apply Lex.nil
      | apply Then.n
      | apply Then.r
      | apply Then.x
      | apply InBlock.n
      | apply InBlock.r
      | apply InBlock.hit
      | (apply InBlock.miss; exact rfl)
      | apply W.seq
      | apply W.region
      | apply W.block
      | apply W.skip
      | apply W.ret
      | apply W.exit
      | (apply W.draw2 (id := 22) [0, 0, 3, 7, 0, 0, 63, 0, 0, 511, 1023, 2047, 2047, 4095, 16383] [[22], [23], [139, 140], [141], [10], [4], [142, 143, 144], [1], [2], [145, 146, 147], [148], [138], [138], [149], [150]] 15 [(139, 4194304), (140, 8388608), (141, 2090694862362245919518973588060783891185664), (142, 2787593149816327892691964784081045188247552), (143, 1024), (144, 16), (145, 39026304097428590497687506977134632635465728), (146, 2), (147, 4), (148, 312210432779428723981500055817077061083725824), (138, 356811923176489970264571492362373784095686656), (149, 348449143727040986586495598010130648530944), (150, 348449143727040986586495598010130648530944), (24, 713623846352979940529142984724747568191373312), (25, 1427247692705959881058285969449495136382746624)] mixed (by kernel_rfl) rfl rfl)
      | (apply W.draw2 (id := 23) [0, 0, 3, 7, 0, 16, 0, 127, 0, 0, 1023, 2047, 4095, 4095, 8191, 32767] [[22], [23], [152, 153], [154], [10], [156], [4], [155, 157, 158], [1], [2], [159, 160, 161], [162], [151], [151], [163], [164]] 16 [(152, 4194304), (153, 8388608), (154, 17126972312471518572699431633393941636592959488), (155, 22835963083295358096932575511191922182123945984), (156, 1024), (157, 91343852333181432387730302044767688728495783936), (158, 16), (159, 593735040165679310520246963290989976735222595584), (160, 2), (161, 4), (162, 5115255730658160213712896914506990568795763900416), (151, 5846006549323611672814739330865132078623730171904), (163, 2854495385411919762116571938898990272765493248), (164, 2854495385411919762116571938898990272765493248), (26, 11692013098647223345629478661730264157247460343808), (27, 23384026197294446691258957323460528314494920687616)] mixed (by kernel_rfl) rfl rfl)
      | ((first | apply U_ | (apply Ug_; exact rfl; exact rfl) | (apply Ugq_; exact rfl; exact rfl) | apply Lex.u | (apply Lex.g; exact rfl; exact rfl) | (apply Lex.gq; exact rfl; exact rfl)); (first
    | (apply Q_add; exact Ev.auto; exact Ev.auto; (constructor <;> omega))
    | exact QX.Move TYok
    | exact QX.Asg TYok
    | exact QX.Ld TYok
    | exact QX.Bin TYok
    | exact QX.Pick TYok
    | exact QX.Un TYok
    | exact QX.Len TYok
    | exact QX.Idx TYok
    | exact QX.Ext TYok
    | exact QX.Conv TYok
    | exact QX.Build TYok
    | (apply Q_calld (h0); exact EvD.auto)
    | (apply Q_calld (h1); exact EvD.auto)
    | (apply Q_call (h2); exact EvL.auto; exact rfl)
    | (apply Q_calld (o1); exact EvD.auto)
    | (apply Q_calld (o2); exact EvD.auto)
    | (apply Q_calld (o3); exact EvD.auto)
    | (apply Q_calld (h3); exact EvD.auto)
    | (apply Q_calld (o4); exact EvD.auto)
    | (apply Q_calld (o5); exact EvD.auto)
    | (apply Q_calld (o6); exact EvD.auto)
    | (apply Q_calld (h4); exact EvD.auto)
    | (apply Q_calld (h5); exact EvD.auto)
    | (apply Q_calld (h6); exact EvD.auto)
    | (apply Q_calld (o7); exact EvD.auto)
    | (apply Q_calld (h7); exact EvD.auto)
    | (apply Q_calld (h8); exact EvD.auto)
    | (apply Q_calld (h9); exact EvD.auto)); exact rfl)
      | refine SX.Alloc TYok (h := ?_)
      | refine SX.Store TYok (h := ?_)
      | refine SX.Lit TYok (h := ?_)
      | refine SX.App TYok (h := ?_)
      | refine SX.Box TYok (h := ?_)
      | (apply S_isnil TYok; exact rfl; exact rfl; exact rfl; exact Ev.auto; intro bn hnil)
      | (apply RG.gT; exact rfl; exact rfl; (first | assumption | decide))
      | (apply RG.gF; exact rfl; exact rfl; (first | assumption | decide | (rw [ne_eq, Bool.not_eq_true]; assumption) | (rw [ne_eq, Bool.not_eq_false]; assumption)); exact rfl)
      | (refine W.condA (ht := fun hb => ?_) (hf := fun hb => ?_) <;> (try simp at hb) <;> (try (exfalso; omega))))
    apply W.loopP (σ := Nat) 229 [1, 2, 4, 9, 10, 22] (fun x => x ≤ 3) (fun x => [(23, vI x)]) (fun _ => [(4, ⟨24, 5, [encX e]⟩), (131, ⟨3, 1, ([16, 18, 17] : List Int).map encI⟩)]) (fun x => 3 - x) (0)
    case hp => repeat (first | exact Pick.nil | apply Pick.cons rfl)
    case h0 =>
      refine ⟨by omega, ?_⟩
      exact Le.auto
    case round =>
      rintro x hx1
      apply W.norm (by repeat (first | exact App.nil | apply App.cons))
      by_cases hx : x < 3
      · have hop : nth ([16, 18, 17] : List Int) x = 16 ∨ nth ([16, 18, 17] : List Int) x = 18 ∨ nth ([16, 18, 17] : List Int) x = 17 := by
          rcases (by omega : x = 0 ∨ x = 1 ∨ x = 2) with rfl | rfl | rfl
          · exact .inl (by simp [nth])
          · exact .inr (.inl (by simp [nth]))
          · exact .inr (.inr (by simp [nth]))
        have fop : framedF (nth ([16, 18, 17] : List Int) x) = true := by rcases hop with q | q | q <;> (rw [q]; decide)
        have o8 := overE_ok (nth ([16, 18, 17] : List Int) x) (1 + w % 30) e
        have o9 := overE_ok (nth ([16, 18, 17] : List Int) x) (1 + w % 30 + 1) e
        have le8 : ∀ k', listF (overE (nth ([16, 18, 17] : List Int) x) k' e) = listF e := fun k' => listF_over fop
        have re8 : rightF 12 (overE (nth ([16, 18, 17] : List Int) x) (1 + w % 30) e) = true := by rw [right_time (by omega) (by omega)]; exact hr11
        have re9 : rightF 12 (overE (nth ([16, 18, 17] : List Int) x) (1 + w % 30 + 1) e) = true := by rw [right_time (by omega) (by omega)]; exact hr11
        have h10 := run_ok (overE (nth ([16, 18, 17] : List Int) x) (1 + w % 30) e) ts days (okOver he) (by rw [le8]; omega) (by omega) (fun t h => by have := x2 t h; omega)
        have h11 := run_ok (overE (nth ([16, 18, 17] : List Int) x) (1 + w % 30 + 1) e) ts days (okOver he) (by rw [le8]; omega) (by omega) (fun t h => by have := x2 t h; omega)
        rw [run_fit re8 (le8 _) hfit] at h10
        rw [run_fit re9 (le8 _) hfit] at h11
        have lp := hlen _ (1 + w % 30) fop
        have lq := hlen _ (1 + w % 30 + 1) fop
        have m1 : ∀ d : Nat, (d : Int) < days → nth ([16, 18, 17] : List Int) x ≠ 17 → nth (nodeF days (overE (nth ([16, 18, 17] : List Int) x) (1 + w % 30) e) ts) d = 1 → nth (nodeF days (overE (nth ([16, 18, 17] : List Int) x) (1 + w % 30 + 1) e) ts) d = 1 := fun d hd hne => more_day (by omega) (by omega) hl0
        have m2 : ∀ d : Nat, (d : Int) < days → nth ([16, 18, 17] : List Int) x = 17 → nth (nodeF days (overE (nth ([16, 18, 17] : List Int) x) (1 + w % 30) e) ts) d = 0 → nth (nodeF days (overE (nth ([16, 18, 17] : List Int) x) (1 + w % 30 + 1) e) ts) d = 0 := fun d hd he17 => by rw [he17]; exact less_day (by omega) hl0
        generalize nodeF days (overE (nth ([16, 18, 17] : List Int) x) (1 + w % 30) e) ts = p at h10 lp m1 m2
        generalize nodeF days (overE (nth ([16, 18, 17] : List Int) x) (1 + w % 30 + 1) e) ts = r at h11 lq m1 m2
        replace h10 : ACalls Try.prog 10 [aE (overE (nth ([16, 18, 17] : List Int) x) (1 + w % 30) e), slR ts, cI days] (.tup [slI p, cI 0]) := h10
        replace h11 : ACalls Try.prog 10 [aE (overE (nth ([16, 18, 17] : List Int) x) (1 + w % 30 + 1) e), slR ts, cI days] (.tup [slI r, cI 0]) := h11
        repeat' (first
          | apply RG.nil
          | apply Lex.nil
          | apply Then.n
          | apply Then.r
          | apply Then.x
          | apply InBlock.n
          | apply InBlock.r
          | apply InBlock.hit
          | (apply InBlock.miss; exact rfl)
          | apply W.seq
          | apply W.region
          | apply W.block
          | apply W.skip
          | apply W.ret
          | apply W.exit
          | (apply W.draw2 (id := 22) [0, 0, 3, 7, 0, 0, 63, 0, 0, 511, 1023, 2047, 2047, 4095, 16383] [[22], [23], [139, 140], [141], [10], [4], [142, 143, 144], [1], [2], [145, 146, 147], [148], [138], [138], [149], [150]] 15 [(139, 4194304), (140, 8388608), (141, 2090694862362245919518973588060783891185664), (142, 2787593149816327892691964784081045188247552), (143, 1024), (144, 16), (145, 39026304097428590497687506977134632635465728), (146, 2), (147, 4), (148, 312210432779428723981500055817077061083725824), (138, 356811923176489970264571492362373784095686656), (149, 348449143727040986586495598010130648530944), (150, 348449143727040986586495598010130648530944), (24, 713623846352979940529142984724747568191373312), (25, 1427247692705959881058285969449495136382746624)] mixed (by kernel_rfl) rfl rfl)
          | (apply W.draw2 (id := 23) [0, 0, 3, 7, 0, 16, 0, 127, 0, 0, 1023, 2047, 4095, 4095, 8191, 32767] [[22], [23], [152, 153], [154], [10], [156], [4], [155, 157, 158], [1], [2], [159, 160, 161], [162], [151], [151], [163], [164]] 16 [(152, 4194304), (153, 8388608), (154, 17126972312471518572699431633393941636592959488), (155, 22835963083295358096932575511191922182123945984), (156, 1024), (157, 91343852333181432387730302044767688728495783936), (158, 16), (159, 593735040165679310520246963290989976735222595584), (160, 2), (161, 4), (162, 5115255730658160213712896914506990568795763900416), (151, 5846006549323611672814739330865132078623730171904), (163, 2854495385411919762116571938898990272765493248), (164, 2854495385411919762116571938898990272765493248), (26, 11692013098647223345629478661730264157247460343808), (27, 23384026197294446691258957323460528314494920687616)] mixed (by kernel_rfl) rfl rfl)
          | ((first | apply U_ | (apply Ug_; exact rfl; exact rfl) | (apply Ugq_; exact rfl; exact rfl) | apply Lex.u | (apply Lex.g; exact rfl; exact rfl) | (apply Lex.gq; exact rfl; exact rfl)); (first
    | exact QX.Move TYok
    | exact QX.Asg TYok
    | exact QX.Ld TYok
    | exact QX.Bin TYok
    | exact QX.Pick TYok
    | exact QX.Un TYok
    | exact QX.Len TYok
    | exact QX.Idx TYok
    | exact QX.Ext TYok
    | exact QX.Conv TYok
    | exact QX.Build TYok
    | (apply Q_calld (o8); exact EvD.auto)
    | (apply Q_calld (o9); exact EvD.auto)
    | (apply Q_calld (h10); exact EvD.auto)
    | (apply Q_calld (h11); exact EvD.auto)); exact rfl)
          | refine SX.Alloc TYok (h := ?_)
          | refine SX.Store TYok (h := ?_)
          | refine SX.Lit TYok (h := ?_)
          | refine SX.App TYok (h := ?_)
          | refine SX.Box TYok (h := ?_)
          | (apply S_isnil TYok; exact rfl; exact rfl; exact rfl; exact Ev.auto; intro bn hnil)
          | (apply RG.gT; exact rfl; exact rfl; (first | assumption | decide))
          | (apply RG.gF; exact rfl; exact rfl; (first | assumption | decide | (rw [ne_eq, Bool.not_eq_true]; assumption) | (rw [ne_eq, Bool.not_eq_false]; assumption)); exact rfl)
          | (refine W.condA (ht := fun hb => ?_) (hf := fun hb => ?_) <;> (try simp at hb) <;> (try (exfalso; omega))))
        apply W.loopP (σ := Nat) 229 [1, 2, 4, 9, 10, 22, 24, 26] (fun d => (d : Int) ≤ days) (fun d => [(23, vI x), (28, vI d)]) (fun _ => [(4, ⟨24, 5, [encX e]⟩), (131, ⟨3, 1, ([16, 18, 17] : List Int).map encI⟩)]) (fun d => days.toNat - d) (0)
        case hp => repeat (first | exact Pick.nil | apply Pick.cons rfl)
        case h0 =>
          refine ⟨by simpa using g2, ?_⟩
          exact Le.auto
        case round =>
          rintro d hd1
          apply W.norm (by repeat (first | exact App.nil | apply App.cons))
          by_cases hd : (d : Int) < days
          · have n1 := m1 d hd
            have n2 := m2 d hd
            repeat' (first
              | apply RG.nil
              | apply Lex.nil
              | apply Then.n
              | apply Then.r
              | apply Then.x
              | apply InBlock.n
              | apply InBlock.r
              | apply InBlock.hit
              | (apply InBlock.miss; exact rfl)
              | apply W.seq
              | apply W.region
              | apply W.block
              | apply W.skip
              | apply W.ret
              | apply W.exit
              | (apply W.draw2 (id := 22) [0, 0, 3, 7, 0, 0, 63, 0, 0, 511, 1023, 2047, 2047, 4095, 16383] [[22], [23], [139, 140], [141], [10], [4], [142, 143, 144], [1], [2], [145, 146, 147], [148], [138], [138], [149], [150]] 15 [(139, 4194304), (140, 8388608), (141, 2090694862362245919518973588060783891185664), (142, 2787593149816327892691964784081045188247552), (143, 1024), (144, 16), (145, 39026304097428590497687506977134632635465728), (146, 2), (147, 4), (148, 312210432779428723981500055817077061083725824), (138, 356811923176489970264571492362373784095686656), (149, 348449143727040986586495598010130648530944), (150, 348449143727040986586495598010130648530944), (24, 713623846352979940529142984724747568191373312), (25, 1427247692705959881058285969449495136382746624)] mixed (by kernel_rfl) rfl rfl)
              | (apply W.draw2 (id := 23) [0, 0, 3, 7, 0, 16, 0, 127, 0, 0, 1023, 2047, 4095, 4095, 8191, 32767] [[22], [23], [152, 153], [154], [10], [156], [4], [155, 157, 158], [1], [2], [159, 160, 161], [162], [151], [151], [163], [164]] 16 [(152, 4194304), (153, 8388608), (154, 17126972312471518572699431633393941636592959488), (155, 22835963083295358096932575511191922182123945984), (156, 1024), (157, 91343852333181432387730302044767688728495783936), (158, 16), (159, 593735040165679310520246963290989976735222595584), (160, 2), (161, 4), (162, 5115255730658160213712896914506990568795763900416), (151, 5846006549323611672814739330865132078623730171904), (163, 2854495385411919762116571938898990272765493248), (164, 2854495385411919762116571938898990272765493248), (26, 11692013098647223345629478661730264157247460343808), (27, 23384026197294446691258957323460528314494920687616)] mixed (by kernel_rfl) rfl rfl)
              | ((first | apply U_ | (apply Ug_; exact rfl; exact rfl) | (apply Ugq_; exact rfl; exact rfl) | apply Lex.u | (apply Lex.g; exact rfl; exact rfl) | (apply Lex.gq; exact rfl; exact rfl)); (first
    | exact QX.Move TYok
    | exact QX.Asg TYok
    | exact QX.Ld TYok
    | exact QX.Bin TYok
    | exact QX.Pick TYok
    | exact QX.Un TYok
    | exact QX.Len TYok
    | exact QX.Idx TYok
    | exact QX.Ext TYok
    | exact QX.Conv TYok
    | exact QX.Build TYok); exact rfl)
              | refine SX.Alloc TYok (h := ?_)
              | refine SX.Store TYok (h := ?_)
              | refine SX.Lit TYok (h := ?_)
              | refine SX.App TYok (h := ?_)
              | refine SX.Box TYok (h := ?_)
              | (apply S_isnil TYok; exact rfl; exact rfl; exact rfl; exact Ev.auto; intro bn hnil)
              | (apply RG.gT; exact rfl; exact rfl; (first | assumption | decide))
              | (apply RG.gF; exact rfl; exact rfl; (first | assumption | decide | (rw [ne_eq, Bool.not_eq_true]; assumption) | (rw [ne_eq, Bool.not_eq_false]; assumption)); exact rfl)
              | (refine W.condA (ht := fun hb => ?_) (hf := fun hb => ?_) <;> (try simp at hb) <;> (try (exfalso; omega))))
            refine ⟨d + 1, by omega, ?_, ?_⟩
            · exact Le.auto
            · (try simp only); omega
          · obtain rfl : d = days.toNat := by omega
            repeat' (first
              | apply RG.nil
              | apply Lex.nil
              | apply Then.n
              | apply Then.r
              | apply Then.x
              | apply InBlock.n
              | apply InBlock.r
              | apply InBlock.hit
              | (apply InBlock.miss; exact rfl)
              | apply W.seq
              | apply W.region
              | apply W.block
              | apply W.skip
              | apply W.ret
              | apply W.exit
              | (apply W.draw2 (id := 22) [0, 0, 3, 7, 0, 0, 63, 0, 0, 511, 1023, 2047, 2047, 4095, 16383] [[22], [23], [139, 140], [141], [10], [4], [142, 143, 144], [1], [2], [145, 146, 147], [148], [138], [138], [149], [150]] 15 [(139, 4194304), (140, 8388608), (141, 2090694862362245919518973588060783891185664), (142, 2787593149816327892691964784081045188247552), (143, 1024), (144, 16), (145, 39026304097428590497687506977134632635465728), (146, 2), (147, 4), (148, 312210432779428723981500055817077061083725824), (138, 356811923176489970264571492362373784095686656), (149, 348449143727040986586495598010130648530944), (150, 348449143727040986586495598010130648530944), (24, 713623846352979940529142984724747568191373312), (25, 1427247692705959881058285969449495136382746624)] mixed (by kernel_rfl) rfl rfl)
              | (apply W.draw2 (id := 23) [0, 0, 3, 7, 0, 16, 0, 127, 0, 0, 1023, 2047, 4095, 4095, 8191, 32767] [[22], [23], [152, 153], [154], [10], [156], [4], [155, 157, 158], [1], [2], [159, 160, 161], [162], [151], [151], [163], [164]] 16 [(152, 4194304), (153, 8388608), (154, 17126972312471518572699431633393941636592959488), (155, 22835963083295358096932575511191922182123945984), (156, 1024), (157, 91343852333181432387730302044767688728495783936), (158, 16), (159, 593735040165679310520246963290989976735222595584), (160, 2), (161, 4), (162, 5115255730658160213712896914506990568795763900416), (151, 5846006549323611672814739330865132078623730171904), (163, 2854495385411919762116571938898990272765493248), (164, 2854495385411919762116571938898990272765493248), (26, 11692013098647223345629478661730264157247460343808), (27, 23384026197294446691258957323460528314494920687616)] mixed (by kernel_rfl) rfl rfl)
              | ((first | apply U_ | (apply Ug_; exact rfl; exact rfl) | (apply Ugq_; exact rfl; exact rfl) | apply Lex.u | (apply Lex.g; exact rfl; exact rfl) | (apply Lex.gq; exact rfl; exact rfl)); (first
    | exact QX.Move TYok
    | exact QX.Asg TYok
    | exact QX.Ld TYok
    | exact QX.Bin TYok
    | exact QX.Pick TYok
    | exact QX.Un TYok
    | exact QX.Len TYok
    | exact QX.Idx TYok
    | exact QX.Ext TYok
    | exact QX.Conv TYok
    | exact QX.Build TYok); exact rfl)
              | refine SX.Alloc TYok (h := ?_)
              | refine SX.Store TYok (h := ?_)
              | refine SX.Lit TYok (h := ?_)
              | refine SX.App TYok (h := ?_)
              | refine SX.Box TYok (h := ?_)
              | (apply S_isnil TYok; exact rfl; exact rfl; exact rfl; exact Ev.auto; intro bn hnil)
              | (apply RG.gT; exact rfl; exact rfl; (first | assumption | decide))
              | (apply RG.gF; exact rfl; exact rfl; (first | assumption | decide | (rw [ne_eq, Bool.not_eq_true]; assumption) | (rw [ne_eq, Bool.not_eq_false]; assumption)); exact rfl)
              | (refine W.condA (ht := fun hb => ?_) (hf := fun hb => ?_) <;> (try simp at hb) <;> (try (exfalso; omega))))
            refine ⟨x + 1, by omega, ?_, ?_⟩
            · exact Le.auto
            · (try simp only); omega
      · obtain rfl : x = 3 := by omega
        repeat' (first
          | apply RG.nil
          | apply Lex.nil
          | apply Then.n
          | apply Then.r
          | apply Then.x
          | apply InBlock.n
          | apply InBlock.r
          | apply InBlock.hit
          | (apply InBlock.miss; exact rfl)
          | apply W.seq
          | apply W.region
          | apply W.block
          | apply W.skip
          | apply W.ret
          | apply W.exit
          | (apply W.draw2 (id := 22) [0, 0, 3, 7, 0, 0, 63, 0, 0, 511, 1023, 2047, 2047, 4095, 16383] [[22], [23], [139, 140], [141], [10], [4], [142, 143, 144], [1], [2], [145, 146, 147], [148], [138], [138], [149], [150]] 15 [(139, 4194304), (140, 8388608), (141, 2090694862362245919518973588060783891185664), (142, 2787593149816327892691964784081045188247552), (143, 1024), (144, 16), (145, 39026304097428590497687506977134632635465728), (146, 2), (147, 4), (148, 312210432779428723981500055817077061083725824), (138, 356811923176489970264571492362373784095686656), (149, 348449143727040986586495598010130648530944), (150, 348449143727040986586495598010130648530944), (24, 713623846352979940529142984724747568191373312), (25, 1427247692705959881058285969449495136382746624)] mixed (by kernel_rfl) rfl rfl)
          | (apply W.draw2 (id := 23) [0, 0, 3, 7, 0, 16, 0, 127, 0, 0, 1023, 2047, 4095, 4095, 8191, 32767] [[22], [23], [152, 153], [154], [10], [156], [4], [155, 157, 158], [1], [2], [159, 160, 161], [162], [151], [151], [163], [164]] 16 [(152, 4194304), (153, 8388608), (154, 17126972312471518572699431633393941636592959488), (155, 22835963083295358096932575511191922182123945984), (156, 1024), (157, 91343852333181432387730302044767688728495783936), (158, 16), (159, 593735040165679310520246963290989976735222595584), (160, 2), (161, 4), (162, 5115255730658160213712896914506990568795763900416), (151, 5846006549323611672814739330865132078623730171904), (163, 2854495385411919762116571938898990272765493248), (164, 2854495385411919762116571938898990272765493248), (26, 11692013098647223345629478661730264157247460343808), (27, 23384026197294446691258957323460528314494920687616)] mixed (by kernel_rfl) rfl rfl)
          | ((first | apply U_ | (apply Ug_; exact rfl; exact rfl) | (apply Ugq_; exact rfl; exact rfl) | apply Lex.u | (apply Lex.g; exact rfl; exact rfl) | (apply Lex.gq; exact rfl; exact rfl)); (first
    | exact QX.Move TYok
    | exact QX.Asg TYok
    | exact QX.Ld TYok
    | exact QX.Bin TYok
    | exact QX.Pick TYok
    | exact QX.Un TYok
    | exact QX.Len TYok
    | exact QX.Idx TYok
    | exact QX.Ext TYok
    | exact QX.Conv TYok
    | exact QX.Build TYok); exact rfl)
          | refine SX.Alloc TYok (h := ?_)
          | refine SX.Store TYok (h := ?_)
          | refine SX.Lit TYok (h := ?_)
          | refine SX.App TYok (h := ?_)
          | refine SX.Box TYok (h := ?_)
          | (apply S_isnil TYok; exact rfl; exact rfl; exact rfl; exact Ev.auto; intro bn hnil)
          | (apply RG.gT; exact rfl; exact rfl; (first | assumption | decide))
          | (apply RG.gF; exact rfl; exact rfl; (first | assumption | decide | (rw [ne_eq, Bool.not_eq_true]; assumption) | (rw [ne_eq, Bool.not_eq_false]; assumption)); exact rfl)
          | (refine W.condA (ht := fun hb => ?_) (hf := fun hb => ?_) <;> (try simp at hb) <;> (try (exfalso; omega))))
        exact Fin.ret ResL.auto
end Go.Proofs.Ytacilhkipekjlaa
