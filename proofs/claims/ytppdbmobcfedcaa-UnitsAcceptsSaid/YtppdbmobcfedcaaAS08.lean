/-
  Part 8 of what the proof rests on.
-/
import Derived.Test.YtppdbmobcfedcaaAS07
import Derived.Test.YtppdbmobcfedcaaAS06
import Derived.Test.YtppdbmobcfedcaaAS05
import Derived.Test.YtppdbmobcfedcaaAS04
section
set_option linter.unusedVariables false
set_option linter.unusedSimpArgs false
set_option maxHeartbeats 8000000
set_option linter.unusedSectionVars false
namespace Go.Proofs.Ytppdbmobcfedcaa
open Lf Go
attribute [local irreducible] PureOp EffOp Ev RG W Then InBlock Lf.Fin nth App InitE Pick SubE EvL EvD EvP EvR ResL Lf.Lex SubR SubBR RA RAll EvC FinO FinM ResM
section
variable {L lets : List Let} {us : List Int}
theorem unit_ok (hL : L.length ≤ 20) (hu : us.length = L.length) (e : Exp) (hr : rightF 12 e = true) : ACalls Try.prog 27 [scV L us, aE e] (.tup [cI (ofU L us e []).t.u, .agg [(ofU L us e []).t.p, .int .i64 (ofU L us e []).t.e]]) := by
  have h := ofU_ok hL hu 12 e [] hr (by simp)
  refine unit_all ?_
  cases hR : ofU L us e [] with
  | ok u => rw [hR] at h; exact .inl ⟨u, h, rfl⟩
  | bad p x => rw [hR] at h; exact .inr ⟨p, x, h, rfl⟩
theorem scoped_ok (hl : lets.length ≤ 20) (hr : ∀ y ∈ lets, rightF 12 y.body = true) : ACalls Try.prog 26 [slL lets] (.pv (scV lets (tabU lets lets.length))) :=
  scoped_walk hl (fun k => (ofU (lets.take k) (tabU lets k) (nth lets k).body []).t.u) (fun k => (ofU (lets.take k) (tabU lets k) (nth lets k).body []).t.p) (fun k => (ofU (lets.take k) (tabU lets k) (nth lets k).body []).t.e) _ (tabU_len _ _) (fun k hk => tabU_nth lets hk) fun k hk => by
    rw [tabU_take lets (by omega)]
    exact unit_ok (by rw [List.length_take]; omega) (by rw [tabU_len, List.length_take]; omega) _ (hr _ (nth_mem hk))
theorem badU_ok (y : Let) (h : OkE y.body) : ACalls Try.prog 23 [aL y] (.pv (cB (!rightF 12 y.body))) := by
  have h1 := rightExp_ok y.body h
  generalize rightF 12 y.body = b at *
  obtain ⟨nm, op, k, u, s, l⟩ := y
  refine ACalls.of_W (qs := [cB (!b)]) [2] 7 Try.func23 (by kernel_rfl) rfl rfl rfl fun G => ?_
  refine W.initA (hw := ?_)
  repeat' (first | ((first | apply U_); (first | exact QX.B TYok | exact QCd (h1)); exact rfl) | refine SX.Box TYok (h := ?_) | refine SC ?_ | (refine W.condA (ht := fun hb => ?_) (hf := fun hb => ?_) <;> (try simp at hb) <;> (try (exfalso; omega))))
  all_goals exact Fin.ret ResL.auto
theorem ofT_ok (hl : LIn lets) {e : Exp} (he : OkE e) {a0 a1 a2 a3 a4 a5 a6 a7 a8 a9 a11 a12 a13 a14 a15 a16 a17 a18 a19 a20 a21 a22 a23 a24 : Cell} : ACalls Try.prog 8 [.agg [a0, a1, a2, a3, a4, a5, a6, a7, a8, a9, .sl (lets.map encL), a11, a12, a13, a14, a15, a16, a17, a18, a19, a20, a21, a22, a23, a24], aE e] (otP (ofT lets e)) := by
  have h1 := rightExp_ok e he
  have h2 := containsL_ok lets 23 [] (fun y => !rightF 12 y.body) hl.len (fun y hy => badU_ok y (hl.ok y hy))
  unfold ofT otP
  by_cases hc : ofC lets e = true
  · rw [if_pos hc]
    obtain ⟨q2, q1, hr⟩ := ofC_yes hc
    have q3 : (lets.any fun y => !rightF 12 y.body) = false := any_no fun j hj => by rw [hr _ (nth_mem hj)]; rfl
    have h3 := scoped_ok q2 hr
    have h4 := unit_ok q2 (tabU_len lets lets.length) e q1
    rw [q1] at h1
    rw [q3] at h2
    cases hR : ofU lets (tabU lets lets.length) e [] with
    | ok u' =>
      rw [hR] at h4
      dsimp only [UR.t, UR.o] at h4 ⊢
      obtain ⟨op, k, u, s, l⟩ := e
      refine ACalls.of_W (qs := [cI u', .one (.sl []), cI 0]) [4, 5, 6] 38 Try.func8 (by kernel_rfl) rfl rfl rfl fun G => ?_
      refine W.initA (hw := ?_)
      repeat' (first | ((first | apply U_ | (apply Ug_; exact rfl; exact rfl) | (apply Ugq_; exact rfl; exact rfl) | apply Lex.u | (apply Lex.g; exact rfl; exact rfl) | (apply Lex.gq; exact rfl; exact rfl)); (first | exact QX.B TYok | exact QX.Len TYok | exact QX.Ext TYok | exact QCd (h1) | exact QCd (h2) | exact QCd (h3) | exact QCd (h4)); exact rfl) | refine SX.Alloc TYok (h := ?_) | refine SX.Store TYok (h := ?_) | refine SX.Box TYok (h := ?_) | refine SC ?_ | (apply RG.gT; exact rfl; exact rfl; (first | assumption | decide)) | (apply RG.gF; exact rfl; exact rfl; (first | assumption | decide | (rw [ne_eq, Bool.not_eq_true]; assumption) | (rw [ne_eq, Bool.not_eq_false]; assumption)); exact rfl) | apply LexS.nil | (apply LexS.f; exact rfl; (first | (apply FreshV.alloc TYok; exact rfl; exact rfl; exact rfl; exact rfl) | (apply FreshV.lit TYok; (repeat (first | exact EvR.nil | apply EvR.cons Ev.auto)); exact rfl; exact rfl; exact rfl; exact rfl; exact rfl; exact rfl; exact rfl; exact rfl; exact rfl) | (apply FreshV.box; exact Ev.auto; exact rfl; exact rfl; exact rfl)); exact rfl; exact rfl; exact rfl) | (apply LexS.s; exact rfl; exact rfl; (apply StoreV.mk TYok; exact Ev.auto; exact Ev.auto; exact rfl; exact rfl; exact rfl; exact rfl; exact rfl)) | ((first | apply LexS.u | (apply LexS.g; exact rfl; exact rfl) | (apply LexS.gq; exact rfl; exact rfl)); (repeat (first | (apply NB.cons; exact rfl) | exact NB.nil rfl)); (first | exact QX.B TYok | exact QX.Len TYok | exact QX.Ext TYok | exact QCd (h1) | exact QCd (h2) | exact QCd (h3) | exact QCd (h4)); exact rfl; exact rfl; exact rfl) | (apply W.draw2 (id := 5) [0, 0, 2, 0, 8, 1, 39, 127] [[8], [9], [34], [9], [36], [33], [35], [37]] 8 [(33, 256), (34, 512), (35, 17179869184), (36, 512), (37, 68719476736), (4, 8589934592), (5, 34359738368), (6, 137438953472)] mixed (by kernel_rfl) rfl rfl) | (refine W.drawS (id := 4) [0, 1, 3, 0, 15, 31, 63, 63, 0, 383, 1023] [[2], [26], [27], [3], [28, 29], [30], [25], [25], [], [31], [9, 32]] [(10, (9, ?_)), (8, (9, ?_))] [(10, 9), (8, 9)] mixed (by kernel_rfl) rfl ?_; rotate_left 2) | (refine W.condA (ht := fun hb => ?_) (hf := fun hb => ?_) <;> (try simp at hb) <;> (try (exfalso; omega))))
      all_goals first
        | exact Fin.ret ResL.auto
        | (exfalso; omega)
        | trace_state
    | bad p x =>
      rw [hR] at h4
      dsimp only [UR.t, UR.o] at h4 ⊢
      obtain ⟨op, k, u, s, l⟩ := e
      refine ACalls.of_W (qs := [cI 0, .one (.sl (p.map encJ)), cI x]) [4, 5, 6] 38 Try.func8 (by kernel_rfl) rfl rfl rfl fun G => ?_
      refine W.initA (hw := ?_)
      repeat' (first | ((first | apply U_ | (apply Ug_; exact rfl; exact rfl) | (apply Ugq_; exact rfl; exact rfl) | apply Lex.u | (apply Lex.g; exact rfl; exact rfl) | (apply Lex.gq; exact rfl; exact rfl)); (first | exact QX.B TYok | exact QX.Len TYok | exact QX.Ext TYok | exact QCd (h1) | exact QCd (h2) | exact QCd (h3) | exact QCd (h4)); exact rfl) | refine SX.Alloc TYok (h := ?_) | refine SX.Store TYok (h := ?_) | refine SX.Box TYok (h := ?_) | refine SC ?_ | (apply RG.gT; exact rfl; exact rfl; (first | assumption | decide)) | (apply RG.gF; exact rfl; exact rfl; (first | assumption | decide | (rw [ne_eq, Bool.not_eq_true]; assumption) | (rw [ne_eq, Bool.not_eq_false]; assumption)); exact rfl) | apply LexS.nil | (apply LexS.f; exact rfl; (first | (apply FreshV.alloc TYok; exact rfl; exact rfl; exact rfl; exact rfl) | (apply FreshV.lit TYok; (repeat (first | exact EvR.nil | apply EvR.cons Ev.auto)); exact rfl; exact rfl; exact rfl; exact rfl; exact rfl; exact rfl; exact rfl; exact rfl; exact rfl) | (apply FreshV.box; exact Ev.auto; exact rfl; exact rfl; exact rfl)); exact rfl; exact rfl; exact rfl) | (apply LexS.s; exact rfl; exact rfl; (apply StoreV.mk TYok; exact Ev.auto; exact Ev.auto; exact rfl; exact rfl; exact rfl; exact rfl; exact rfl)) | ((first | apply LexS.u | (apply LexS.g; exact rfl; exact rfl) | (apply LexS.gq; exact rfl; exact rfl)); (repeat (first | (apply NB.cons; exact rfl) | exact NB.nil rfl)); (first | exact QX.B TYok | exact QX.Len TYok | exact QX.Ext TYok | exact QCd (h1) | exact QCd (h2) | exact QCd (h3) | exact QCd (h4)); exact rfl; exact rfl; exact rfl) | (apply W.draw2 (id := 5) [0, 0, 2, 0, 8, 1, 39, 127] [[8], [9], [34], [9], [36], [33], [35], [37]] 8 [(33, 256), (34, 512), (35, 17179869184), (36, 512), (37, 68719476736), (4, 8589934592), (5, 34359738368), (6, 137438953472)] mixed (by kernel_rfl) rfl rfl) | (refine W.drawS (id := 4) [0, 1, 3, 0, 15, 31, 63, 63, 0, 383, 1023] [[2], [26], [27], [3], [28, 29], [30], [25], [25], [], [31], [9, 32]] [(10, (9, ?_)), (8, (9, ?_))] [(10, 9), (8, 9)] mixed (by kernel_rfl) rfl ?_; rotate_left 2) | (refine W.condA (ht := fun hb => ?_) (hf := fun hb => ?_) <;> (try simp at hb) <;> (try (exfalso; omega))))
      all_goals first
        | exact Fin.ret ResL.auto
        | (exfalso; omega)
        | trace_state
  · rw [if_neg hc]
    have hbad : (rightF 12 e = true ∧ (lets.length : Int) ≤ 20) ∧ (lets.any fun y => !rightF 12 y.body) = false → False := fun q => by
      apply hc
      unfold ofC
      rw [q.1.1, decide_eq_true (show lets.length ≤ 20 by omega), q.2]; rfl
    clear hc
    generalize rightF 12 e = b1 at *
    generalize (lets.any fun y => !rightF 12 y.body) = b2 at *
    obtain ⟨op, k, u, s, l⟩ := e
    refine ACalls.of_W (qs := [cI 0, .one (.sl []), cI 1]) [4, 5, 6] 38 Try.func8 (by kernel_rfl) rfl rfl rfl fun G => ?_
    refine W.initA (hw := ?_)
    repeat' (first | ((first | apply U_ | (apply Ug_; exact rfl; exact rfl) | (apply Ugq_; exact rfl; exact rfl) | apply Lex.u | (apply Lex.g; exact rfl; exact rfl) | (apply Lex.gq; exact rfl; exact rfl)); (first | exact QX.B TYok | exact QX.Len TYok | exact QX.Ext TYok | exact QCd (h1) | exact QCd (h2)); exact rfl) | refine SX.Alloc TYok (h := ?_) | refine SX.Store TYok (h := ?_) | refine SX.Box TYok (h := ?_) | refine SC ?_ | (apply RG.gT; exact rfl; exact rfl; (first | assumption | decide)) | (apply RG.gF; exact rfl; exact rfl; (first | assumption | decide | (rw [ne_eq, Bool.not_eq_true]; assumption) | (rw [ne_eq, Bool.not_eq_false]; assumption)); exact rfl) | (apply W.draw2 (id := 5) [0, 0, 2, 0, 8, 1, 39, 127] [[8], [9], [34], [9], [36], [33], [35], [37]] 8 [(33, 256), (34, 512), (35, 17179869184), (36, 512), (37, 68719476736), (4, 8589934592), (5, 34359738368), (6, 137438953472)] mixed (by kernel_rfl) rfl rfl) | (refine W.drawA (id := 4) (L := [false, false, false, false, false, false, false, false, false, false, false]) mixed rfl ?_) | exact RAll.nil | (refine RAll.cons rfl ?_ ?_) | (refine RA.step (L := [false, false, false, false, false, false, false, false, false, false, false]) (i := 0) (is := [3, 8]) (by kernel_rfl) ?_) | (refine RA.step (L := [false, false, false, false, false, false, false, false, true, false, false]) (i := 0) (is := [3]) (by kernel_rfl) ?_) | (refine RA.step (L := [false, false, false, true, false, false, false, false, true, false, false]) (i := 0) (is := []) (by kernel_rfl) ?_) | (refine RA.step (L := [true, false, false, true, false, false, false, false, true, false, false]) (i := 1) (is := []) (by kernel_rfl) ?_) | (refine RA.step (L := [true, true, false, true, false, false, false, false, true, false, false]) (i := 2) (is := []) (by kernel_rfl) ?_) | (refine RA.step (L := [true, true, true, true, false, false, false, false, true, false, false]) (i := 4) (is := []) (by kernel_rfl) ?_) | (refine RA.step (L := [true, true, true, true, true, false, false, false, true, false, false]) (i := 5) (is := []) (by kernel_rfl) ?_) | (refine RA.step (L := [true, true, true, true, true, true, false, false, true, false, false]) (i := 6) (is := [7]) (by kernel_rfl) ?_) | (refine RA.step (L := [true, true, true, true, true, true, false, true, true, false, false]) (i := 6) (is := []) (by kernel_rfl) ?_) | (refine RA.step (L := [true, true, true, true, true, true, true, true, true, false, false]) (i := 9) (is := []) (by kernel_rfl) ?_) | (refine RA.step (L := [true, true, true, true, true, true, true, true, true, true, false]) (i := 10) (is := []) (by kernel_rfl) ?_) | (refine RA.done (L := [true, true, true, true, true, true, true, true, true, true, true]) (by kernel_rfl) ?_) | (refine RA.step (L := [true, true, true, true, true, true, true, false, true, false, false]) (i := 7) (is := [9]) (by kernel_rfl) ?_) | (refine RA.step (L := [true, true, true, true, true, true, true, false, true, true, false]) (i := 7) (is := []) (by kernel_rfl) ?_) | (refine RA.step (L := [true, false, false, false, false, false, false, false, true, false, false]) (i := 1) (is := [3]) (by kernel_rfl) ?_) | (refine RA.step (L := [true, true, false, false, false, false, false, false, true, false, false]) (i := 2) (is := [3]) (by kernel_rfl) ?_) | (refine RA.step (L := [true, true, true, false, false, false, false, false, true, false, false]) (i := 3) (is := []) (by kernel_rfl) ?_) | (refine RA.step (L := [false, false, false, true, false, false, false, false, false, false, false]) (i := 0) (is := [8]) (by kernel_rfl) ?_) | (refine RA.step (L := [true, false, false, true, false, false, false, false, false, false, false]) (i := 1) (is := [8]) (by kernel_rfl) ?_) | (refine RA.step (L := [true, true, false, true, false, false, false, false, false, false, false]) (i := 2) (is := [8]) (by kernel_rfl) ?_) | (refine RA.step (L := [true, true, true, true, false, false, false, false, false, false, false]) (i := 4) (is := [8]) (by kernel_rfl) ?_) | (refine RA.step (L := [true, true, true, true, true, false, false, false, false, false, false]) (i := 5) (is := [8]) (by kernel_rfl) ?_) | (refine RA.step (L := [true, true, true, true, true, true, false, false, false, false, false]) (i := 6) (is := [7, 8]) (by kernel_rfl) ?_) | (refine RA.step (L := [true, true, true, true, true, true, false, true, false, false, false]) (i := 6) (is := [8]) (by kernel_rfl) ?_) | (refine RA.step (L := [true, true, true, true, true, true, true, true, false, false, false]) (i := 8) (is := []) (by kernel_rfl) ?_) | (refine RA.step (L := [true, true, true, true, true, true, true, false, false, false, false]) (i := 7) (is := [8]) (by kernel_rfl) ?_) | (refine RA.step (L := [true, false, false, false, false, false, false, false, false, false, false]) (i := 1) (is := [3, 8]) (by kernel_rfl) ?_) | (refine RA.step (L := [true, true, false, false, false, false, false, false, false, false, false]) (i := 2) (is := [3, 8]) (by kernel_rfl) ?_) | (refine RA.step (L := [true, true, true, false, false, false, false, false, false, false, false]) (i := 3) (is := [8]) (by kernel_rfl) ?_) | (refine W.condA (ht := fun hb => ?_) (hf := fun hb => ?_) <;> (try simp at hb) <;> (try (exfalso; first | exact hbad hb | omega))))
    all_goals first
      | exact Fin.ret ResL.auto
      | (exfalso; omega)
      | trace_state
end
end Go.Proofs.Ytppdbmobcfedcaa
end
section
set_option linter.unusedVariables false
set_option linter.unusedSimpArgs false
set_option maxHeartbeats 8000000
set_option linter.unusedSectionVars false
namespace Go.Proofs.Ytppdbmobcfedcaa
open Lf Go
attribute [local irreducible] PureOp EffOp Ev RG W Then InBlock Lf.Fin nth App InitE Pick SubE EvL EvD EvP EvR ResL Lf.Lex SubR SubBR RA RAll EvC FinO FinM ResM
section
theorem check_ok (x : Ind) (hx : OkN x) (hsm : x.lets.length ≤ 1000 ∧ x.covs.length ≤ 1000) : ACalls Try.prog 12 [aN x] (.pv (cI (checkF x))) := by
  have h1 := rightI_ok x hx hsm
  have h2 : ∀ k, k < x.lets.length → ACalls Try.prog 30 [aE (nth x.lets k).body] (.pv (cB (tempF (nth x.lets k).body))) := fun k hk => temp_ok _ (hx.lete _ (nth_mem hk))
  have h3 : ∀ k, k < x.lets.length → ACalls Try.prog 8 [.agg [.str [], .str [], .int .i64 0, .int .i64 0, .int .i64 0, .int .i64 0, .int .i64 0, .int .i64 0, .int .i64 0, .int .i64 0, .sl (List.take k (x.lets.map encL)), .int .i64 0, .int .i64 0, .int .i64 0, .str [], .slnil, .int .i64 0, .slnil, .slnil, .int .i64 0, .slnil, .int .i64 0, .int .i64 0, .int .i64 0, .int .i64 0], aE (nth x.lets k).body] (.tup [cI (ofT (x.lets.take k) (nth x.lets k).body).u, .one (.sl ((ofT (x.lets.take k) (nth x.lets k).body).p.map encJ)), cI (ofT (x.lets.take k) (nth x.lets k).body).e]) := fun k hk => by
    rw [← List.map_take]
    exact ofT_ok (lin_of hx k) (hx.lete _ (nth_mem hk))
  have h4 := temp_ok x.coupon hx.coupon
  have h5 : ACalls Try.prog 8 [aN x, aE x.coupon] (.tup [cI (ofT x.lets x.coupon).u, .one (.sl ((ofT x.lets x.coupon).p.map encJ)), cI (ofT x.lets x.coupon).e]) := ofT_ok (lin_all hx) hx.coupon
  have h6 : ∀ k, k < x.covs.length → ACalls Try.prog 8 [aN x, aE (nth x.covs k).must] (.tup [cI (ofT x.lets (nth x.covs k).must).u, .one (.sl ((ofT x.lets (nth x.covs k).must).p.map encJ)), cI (ofT x.lets (nth x.covs k).must).e]) := fun k hk => ofT_ok (lin_all hx) (hx.cove _ (nth_mem hk))
  cases hr : rightN x with
  | false =>
    rw [hr] at h1
    have e : checkF x = 1 := by unfold checkF; rw [if_pos hr]
    rw [e]
    clear h2 h3 h4 h5 h6
    refine ACalls.of_W (qs := [cI 1]) [2] 89 Try.func12 (by kernel_rfl) rfl rfl rfl fun G => ?_
    refine W.initA (hw := ?_)
    repeat' (first | ((first | apply U_ | (apply Ug_; exact rfl; exact rfl) | (apply Ugq_; exact rfl; exact rfl) | apply Lex.u | (apply Lex.g; exact rfl; exact rfl) | (apply Lex.gq; exact rfl; exact rfl)); (first | exact QX.B TYok | exact QX.Len TYok | exact QX.Idx TYok | exact QX.Ext TYok | exact QX.Build TYok | exact QX.Cut TYok | exact QCd (h1)); exact rfl) | refine SX.Alloc TYok (h := ?_) | refine SX.Store TYok (h := ?_) | refine SX.Box TYok (h := ?_) | refine SC ?_ | (apply RG.gT; exact rfl; exact rfl; (first | assumption | decide)) | (apply RG.gF; exact rfl; exact rfl; (first | assumption | decide | (rw [ne_eq, Bool.not_eq_true]; assumption) | (rw [ne_eq, Bool.not_eq_false]; assumption)); exact rfl) | (apply W.draw2 (id := 8) [0, 1, 0, 7, 15, 0, 32, 127, 255, 511, 511, 511, 1023, 6143, 16383] [[1], [31], [3], [32, 33], [34], [4], [36], [35, 37], [38], [30], [30], [30], [39], [40], [41]] 15 [(31, 2), (32, 2147483648), (33, 8), (34, 12884901888), (35, 17179869184), (36, 16), (37, 68719476736), (38, 171798691840), (30, 274877906944), (39, 1073741824), (40, 1073741824), (41, 1073741824), (5, 549755813888), (6, 1099511627776), (7, 2199023255552)] mixed (by kernel_rfl) rfl rfl) | (refine W.condA (ht := fun hb => ?_) (hf := fun hb => ?_) <;> (try simp at hb) <;> (try (exfalso; omega))))
    all_goals exact Fin.ret ResL.auto
  | true =>
  rw [hr] at h1
  have klet := @chk_let x hr
  have kcup := @chk_cup x hr
  have kcov := @chk_cov x hr
  have kall := @chk_all x hr
  generalize checkF x = C at *
  refine ACalls.of_W (qs := [cI C]) [2] 89 Try.func12 (by kernel_rfl) rfl rfl rfl fun G => ?_
  refine W.initA (hw := ?_)
  repeat' (first | (refine W.weaken (Le.freeze1 (m := 1) rfl) ?_) | (refine W.purgeR [(1, [1]), (3, [1])] rfl (by repeat (first | exact PN.nil | apply PN.po rfl | (apply PN.pa; exact rfl; (repeat (first | (apply NR.cons; exact rfl) | exact NR.nil rfl))) | apply PN.a rfl | apply PN.s rfl | apply PN.u rfl | apply PN.m rfl | apply PN.k rfl | apply PN.i rfl | apply PN.skip)) (by repeat (first | exact PB.nil | (apply PB.one; exact rfl; (focus (first | (dsimp only; done) | (dsimp only; exact rfl) | exact rfl)); (focus (first | (dsimp only; done) | (dsimp only; exact rfl) | exact rfl)); exact rfl; (repeat (first | (apply NR.cons; exact rfl) | exact NR.nil rfl)))  | apply PB.cons rfl)) ?_) | ((first | apply U_ | (apply Ug_; exact rfl; exact rfl) | (apply Ugq_; exact rfl; exact rfl) | apply Lex.u | (apply Lex.g; exact rfl; exact rfl) | (apply Lex.gq; exact rfl; exact rfl)); (first | exact QX.B TYok | exact QX.Len TYok | exact QX.Idx TYok | exact QX.Ext TYok | exact QX.Build TYok | exact QX.Cut TYok | exact QCd (h1)); exact rfl) | refine SX.Alloc TYok (h := ?_) | refine SX.Store TYok (h := ?_) | refine SX.Box TYok (h := ?_) | refine SC ?_ | (apply RG.gT; exact rfl; exact rfl; (first | assumption | decide)) | (apply RG.gF; exact rfl; exact rfl; (first | assumption | decide | (rw [ne_eq, Bool.not_eq_true]; assumption) | (rw [ne_eq, Bool.not_eq_false]; assumption)); exact rfl) | (apply W.draw2 (id := 8) [0, 1, 0, 7, 15, 0, 32, 127, 255, 511, 511, 511, 1023, 6143, 16383] [[1], [31], [3], [32, 33], [34], [4], [36], [35, 37], [38], [30], [30], [30], [39], [40], [41]] 15 [(31, 2), (32, 2147483648), (33, 8), (34, 12884901888), (35, 17179869184), (36, 16), (37, 68719476736), (38, 171798691840), (30, 274877906944), (39, 1073741824), (40, 1073741824), (41, 1073741824), (5, 549755813888), (6, 1099511627776), (7, 2199023255552)] mixed (by kernel_rfl) rfl rfl) | (refine W.condA (ht := fun hb => ?_) (hf := fun hb => ?_) <;> (try simp at hb) <;> (try (exfalso; omega))))
  apply W.loopP (σ := Nat) 89 [1, 20, 21] (fun k => k ≤ x.lets.length ∧ firstE (letE x.lets) k = 0) (fun k => [(22, vI k)]) (fun _ => []) (fun k => x.lets.length - k) (0)
  case hp => repeat (first | exact Pick.nil | apply Pick.cons rfl)
  case h0 =>
    refine ⟨⟨by simp, rfl⟩, ?_⟩
    exact Le.auto
  case round =>
    rintro k ⟨g1, g2⟩
    apply W.norm (by repeat (first | exact App.nil | apply App.cons))
    by_cases hk : k < x.lets.length
    · have c2 := h2 k hk
      have c3 := h3 k hk
      have kl := fun v hv => klet hk g2 (v := v) hv
      have hs : letE x.lets k = 0 → firstE (letE x.lets) (k + 1) = 0 := fun q => by rw [firstE, if_neg (by omega)]; exact q
      unfold letE at kl hs
      cases ht : tempF (nth x.lets k).body with
      | true =>
        rw [ht] at c2
        rw [if_pos ht] at kl
        rw [kl 14 rfl (by decide)]
        repeat' (first | (refine W.weaken (Le.freeze1 (m := 4) rfl) ?_) | (refine W.purgeR [(5, [1, 20, 21, 22]), (6, [1, 3, 4, 20, 21, 22])] rfl (by repeat (first | exact PN.nil | apply PN.po rfl | (apply PN.pa; exact rfl; (repeat (first | (apply NR.cons; exact rfl) | exact NR.nil rfl))) | apply PN.a rfl | apply PN.s rfl | apply PN.u rfl | apply PN.m rfl | apply PN.k rfl | apply PN.i rfl | apply PN.skip)) (by repeat (first | exact PB.nil | (apply PB.one; exact rfl; (focus (first | (dsimp only; done) | (dsimp only; exact rfl) | exact rfl)); (focus (first | (dsimp only; done) | (dsimp only; exact rfl) | exact rfl)); exact rfl; (repeat (first | (apply NR.cons; exact rfl) | exact NR.nil rfl)))  | apply PB.cons rfl)) ?_) | ((first | apply U_ | (apply Ug_; exact rfl; exact rfl) | (apply Ugq_; exact rfl; exact rfl) | apply Lex.u | (apply Lex.g; exact rfl; exact rfl) | (apply Lex.gq; exact rfl; exact rfl)); (first | exact QX.B TYok | exact QX.Len TYok | exact QX.Idx TYok | exact QX.Ext TYok | exact QX.Build TYok | exact QX.Cut TYok | exact QCd (c2)); exact rfl) | refine SX.Alloc TYok (h := ?_) | refine SX.Store TYok (h := ?_) | refine SX.Box TYok (h := ?_) | refine SC ?_ | (apply RG.gT; exact rfl; exact rfl; (first | assumption | decide)) | (apply RG.gF; exact rfl; exact rfl; (first | assumption | decide | (rw [ne_eq, Bool.not_eq_true]; assumption) | (rw [ne_eq, Bool.not_eq_false]; assumption)); exact rfl) | (apply W.draw2 (id := 8) [0, 1, 0, 7, 15, 0, 32, 127, 255, 511, 511, 511, 1023, 6143, 16383] [[1], [31], [3], [32, 33], [34], [4], [36], [35, 37], [38], [30], [30], [30], [39], [40], [41]] 15 [(31, 2), (32, 2147483648), (33, 8), (34, 12884901888), (35, 17179869184), (36, 16), (37, 68719476736), (38, 171798691840), (30, 274877906944), (39, 1073741824), (40, 1073741824), (41, 1073741824), (5, 549755813888), (6, 1099511627776), (7, 2199023255552)] mixed (by kernel_rfl) rfl rfl) | (refine W.condA (ht := fun hb => ?_) (hf := fun hb => ?_) <;> (try simp at hb) <;> (try (exfalso; omega))))
        all_goals first
          | exact Fin.ret ResL.auto
          | (exfalso; omega)
          | trace_state
      | false =>
        rw [ht] at c2
        rw [if_neg (by rw [ht]; decide)] at kl hs
        generalize (ofT (x.lets.take k) (nth x.lets k).body) = T at *
        by_cases he : T.e = 0
        · repeat' (first | (refine W.weaken (Le.freeze1 (m := 4) rfl) ?_) | (refine W.purgeR [(5, [1, 20, 21, 22]), (6, [1, 3, 4, 20, 21, 22]), (8, [1, 3, 4, 20, 21, 22])] rfl (by repeat (first | exact PN.nil | apply PN.po rfl | (apply PN.pa; exact rfl; (repeat (first | (apply NR.cons; exact rfl) | exact NR.nil rfl))) | apply PN.a rfl | apply PN.s rfl | apply PN.u rfl | apply PN.m rfl | apply PN.k rfl | apply PN.i rfl | apply PN.skip)) (by repeat (first | exact PB.nil | (apply PB.one; exact rfl; (focus (first | (dsimp only; done) | (dsimp only; exact rfl) | exact rfl)); (focus (first | (dsimp only; done) | (dsimp only; exact rfl) | exact rfl)); exact rfl; (repeat (first | (apply NR.cons; exact rfl) | exact NR.nil rfl)))  | apply PB.cons rfl)) ?_) | ((first | apply U_ | (apply Ug_; exact rfl; exact rfl) | (apply Ugq_; exact rfl; exact rfl) | apply Lex.u | (apply Lex.g; exact rfl; exact rfl) | (apply Lex.gq; exact rfl; exact rfl)); (first | exact QX.B TYok | exact QX.Len TYok | exact QX.Idx TYok | exact QX.Ext TYok | exact QX.Build TYok | exact QX.Cut TYok | exact QCd (c2) | exact QCd (c3)); exact rfl) | refine SX.Alloc TYok (h := ?_) | refine SX.Store TYok (h := ?_) | refine SX.Box TYok (h := ?_) | refine SC ?_ | (apply RG.gT; exact rfl; exact rfl; (first | assumption | decide)) | (apply RG.gF; exact rfl; exact rfl; (first | assumption | decide | (rw [ne_eq, Bool.not_eq_true]; assumption) | (rw [ne_eq, Bool.not_eq_false]; assumption)); exact rfl) | (apply W.draw2 (id := 8) [0, 1, 0, 7, 15, 0, 32, 127, 255, 511, 511, 511, 1023, 6143, 16383] [[1], [31], [3], [32, 33], [34], [4], [36], [35, 37], [38], [30], [30], [30], [39], [40], [41]] 15 [(31, 2), (32, 2147483648), (33, 8), (34, 12884901888), (35, 17179869184), (36, 16), (37, 68719476736), (38, 171798691840), (30, 274877906944), (39, 1073741824), (40, 1073741824), (41, 1073741824), (5, 549755813888), (6, 1099511627776), (7, 2199023255552)] mixed (by kernel_rfl) rfl rfl) | (refine W.condA (ht := fun hb => ?_) (hf := fun hb => ?_) <;> (try simp at hb) <;> (try (exfalso; omega))))
          all_goals first
            | (refine ⟨k + 1, ⟨by omega, hs he⟩, ?_, by (try simp only); omega⟩; exact Le.auto)
            | (exfalso; omega)
            | trace_state
        · rw [kl T.e rfl he]
          repeat' (first | (refine W.weaken (Le.freeze1 (m := 4) rfl) ?_) | (refine W.purgeR [(5, [1, 20, 21, 22]), (6, [1, 3, 4, 20, 21, 22]), (8, [1, 3, 4, 20, 21, 22])] rfl (by repeat (first | exact PN.nil | apply PN.po rfl | (apply PN.pa; exact rfl; (repeat (first | (apply NR.cons; exact rfl) | exact NR.nil rfl))) | apply PN.a rfl | apply PN.s rfl | apply PN.u rfl | apply PN.m rfl | apply PN.k rfl | apply PN.i rfl | apply PN.skip)) (by repeat (first | exact PB.nil | (apply PB.one; exact rfl; (focus (first | (dsimp only; done) | (dsimp only; exact rfl) | exact rfl)); (focus (first | (dsimp only; done) | (dsimp only; exact rfl) | exact rfl)); exact rfl; (repeat (first | (apply NR.cons; exact rfl) | exact NR.nil rfl)))  | apply PB.cons rfl)) ?_) | ((first | apply U_ | (apply Ug_; exact rfl; exact rfl) | (apply Ugq_; exact rfl; exact rfl) | apply Lex.u | (apply Lex.g; exact rfl; exact rfl) | (apply Lex.gq; exact rfl; exact rfl)); (first | exact QX.B TYok | exact QX.Len TYok | exact QX.Idx TYok | exact QX.Ext TYok | exact QX.Build TYok | exact QX.Cut TYok | exact QCd (c2) | exact QCd (c3)); exact rfl) | refine SX.Alloc TYok (h := ?_) | refine SX.Store TYok (h := ?_) | refine SX.Box TYok (h := ?_) | refine SC ?_ | (apply RG.gT; exact rfl; exact rfl; (first | assumption | decide)) | (apply RG.gF; exact rfl; exact rfl; (first | assumption | decide | (rw [ne_eq, Bool.not_eq_true]; assumption) | (rw [ne_eq, Bool.not_eq_false]; assumption)); exact rfl) | (apply W.draw2 (id := 8) [0, 1, 0, 7, 15, 0, 32, 127, 255, 511, 511, 511, 1023, 6143, 16383] [[1], [31], [3], [32, 33], [34], [4], [36], [35, 37], [38], [30], [30], [30], [39], [40], [41]] 15 [(31, 2), (32, 2147483648), (33, 8), (34, 12884901888), (35, 17179869184), (36, 16), (37, 68719476736), (38, 171798691840), (30, 274877906944), (39, 1073741824), (40, 1073741824), (41, 1073741824), (5, 549755813888), (6, 1099511627776), (7, 2199023255552)] mixed (by kernel_rfl) rfl rfl) | (refine W.condA (ht := fun hb => ?_) (hf := fun hb => ?_) <;> (try simp at hb) <;> (try (exfalso; omega))))
          all_goals first
            | exact Fin.ret ResL.auto
            | (exfalso; omega)
            | trace_state
    · obtain rfl : k = x.lets.length := by omega
      have kc := fun v hv => kcup g2 (v := v) hv
      have kv := kcov g2
      have ka := kall g2
      unfold cupE at kc kv ka
      cases ht : tempF x.coupon with
      | true =>
        rw [ht] at h4
        rw [if_pos ht] at kc
        rw [kc 14 rfl (by decide)]
        repeat' (first | ((first | apply U_ | (apply Ug_; exact rfl; exact rfl) | (apply Ugq_; exact rfl; exact rfl) | apply Lex.u | (apply Lex.g; exact rfl; exact rfl) | (apply Lex.gq; exact rfl; exact rfl)); (first | exact QX.B TYok | exact QX.Len TYok | exact QX.Idx TYok | exact QX.Ext TYok | exact QX.Build TYok | exact QX.Cut TYok | exact QCd (h4)); exact rfl) | refine SX.Alloc TYok (h := ?_) | refine SX.Store TYok (h := ?_) | refine SX.Box TYok (h := ?_) | refine SC ?_ | (apply RG.gT; exact rfl; exact rfl; (first | assumption | decide)) | (apply RG.gF; exact rfl; exact rfl; (first | assumption | decide | (rw [ne_eq, Bool.not_eq_true]; assumption) | (rw [ne_eq, Bool.not_eq_false]; assumption)); exact rfl) | (apply W.draw2 (id := 8) [0, 1, 0, 7, 15, 0, 32, 127, 255, 511, 511, 511, 1023, 6143, 16383] [[1], [31], [3], [32, 33], [34], [4], [36], [35, 37], [38], [30], [30], [30], [39], [40], [41]] 15 [(31, 2), (32, 2147483648), (33, 8), (34, 12884901888), (35, 17179869184), (36, 16), (37, 68719476736), (38, 171798691840), (30, 274877906944), (39, 1073741824), (40, 1073741824), (41, 1073741824), (5, 549755813888), (6, 1099511627776), (7, 2199023255552)] mixed (by kernel_rfl) rfl rfl) | (refine W.condA (ht := fun hb => ?_) (hf := fun hb => ?_) <;> (try simp at hb) <;> (try (exfalso; omega))))
        all_goals first
          | exact Fin.ret ResL.auto
          | (exfalso; omega)
          | trace_state
      | false =>
        rw [ht] at h4
        rw [if_neg (by rw [ht]; decide)] at kc kv ka
        generalize (ofT x.lets x.coupon) = T at *
        by_cases he : T.e = 0
        case neg =>
          rw [if_pos he] at kc
          rw [kc T.e rfl he]
          have hf := first_ok T.e 13
          rw [if_pos he] at hf
          repeat' (first | ((first | apply U_ | (apply Ug_; exact rfl; exact rfl) | (apply Ugq_; exact rfl; exact rfl) | apply Lex.u | (apply Lex.g; exact rfl; exact rfl) | (apply Lex.gq; exact rfl; exact rfl)); (first | exact QX.B TYok | exact QX.Len TYok | exact QX.Idx TYok | exact QX.Ext TYok | exact QX.Build TYok | exact QX.Cut TYok | exact QCd (h4) | exact QCd (h5) | exact QCd (hf)); exact rfl) | refine SX.Alloc TYok (h := ?_) | refine SX.Store TYok (h := ?_) | refine SX.Box TYok (h := ?_) | refine SC ?_ | (apply RG.gT; exact rfl; exact rfl; (first | assumption | decide)) | (apply RG.gF; exact rfl; exact rfl; (first | assumption | decide | (rw [ne_eq, Bool.not_eq_true]; assumption) | (rw [ne_eq, Bool.not_eq_false]; assumption)); exact rfl) | (apply W.draw2 (id := 8) [0, 1, 0, 7, 15, 0, 32, 127, 255, 511, 511, 511, 1023, 6143, 16383] [[1], [31], [3], [32, 33], [34], [4], [36], [35, 37], [38], [30], [30], [30], [39], [40], [41]] 15 [(31, 2), (32, 2147483648), (33, 8), (34, 12884901888), (35, 17179869184), (36, 16), (37, 68719476736), (38, 171798691840), (30, 274877906944), (39, 1073741824), (40, 1073741824), (41, 1073741824), (5, 549755813888), (6, 1099511627776), (7, 2199023255552)] mixed (by kernel_rfl) rfl rfl) | (refine W.condA (ht := fun hb => ?_) (hf := fun hb => ?_) <;> (try simp at hb) <;> (try (exfalso; omega))))
          all_goals first
            | exact Fin.ret ResL.auto
            | (exfalso; omega)
            | trace_state
        case pos =>
        rw [if_neg (by omega)] at kc kv ka
        by_cases hu : T.u = 2
        case neg =>
          rw [if_pos hu] at kc
          rw [kc 13 rfl (by decide)]
          have hf := first_ok T.e 13
          rw [if_neg (by omega)] at hf
          repeat' (first | ((first | apply U_ | (apply Ug_; exact rfl; exact rfl) | (apply Ugq_; exact rfl; exact rfl) | apply Lex.u | (apply Lex.g; exact rfl; exact rfl) | (apply Lex.gq; exact rfl; exact rfl)); (first | exact QX.B TYok | exact QX.Len TYok | exact QX.Idx TYok | exact QX.Ext TYok | exact QX.Build TYok | exact QX.Cut TYok | exact QCd (h4) | exact QCd (h5) | exact QCd (hf)); exact rfl) | refine SX.Alloc TYok (h := ?_) | refine SX.Store TYok (h := ?_) | refine SX.Box TYok (h := ?_) | refine SC ?_ | (apply RG.gT; exact rfl; exact rfl; (first | assumption | decide)) | (apply RG.gF; exact rfl; exact rfl; (first | assumption | decide | (rw [ne_eq, Bool.not_eq_true]; assumption) | (rw [ne_eq, Bool.not_eq_false]; assumption)); exact rfl) | (apply W.draw2 (id := 8) [0, 1, 0, 7, 15, 0, 32, 127, 255, 511, 511, 511, 1023, 6143, 16383] [[1], [31], [3], [32, 33], [34], [4], [36], [35, 37], [38], [30], [30], [30], [39], [40], [41]] 15 [(31, 2), (32, 2147483648), (33, 8), (34, 12884901888), (35, 17179869184), (36, 16), (37, 68719476736), (38, 171798691840), (30, 274877906944), (39, 1073741824), (40, 1073741824), (41, 1073741824), (5, 549755813888), (6, 1099511627776), (7, 2199023255552)] mixed (by kernel_rfl) rfl rfl) | (refine W.condA (ht := fun hb => ?_) (hf := fun hb => ?_) <;> (try simp at hb) <;> (try (exfalso; omega))))
          all_goals first
            | exact Fin.ret ResL.auto
            | (exfalso; omega)
            | trace_state
        case pos =>
        rw [if_neg (by omega)] at kc kv ka
        repeat' (first | (refine W.purgeR [(12, [1]), (14, [1]), (17, [1])] rfl (by repeat (first | exact PN.nil | apply PN.po rfl | (apply PN.pa; exact rfl; (repeat (first | (apply NR.cons; exact rfl) | exact NR.nil rfl))) | apply PN.a rfl | apply PN.s rfl | apply PN.u rfl | apply PN.m rfl | apply PN.k rfl | apply PN.i rfl | apply PN.skip)) (by repeat (first | exact PB.nil | (apply PB.one; exact rfl; (focus (first | (dsimp only; done) | (dsimp only; exact rfl) | exact rfl)); (focus (first | (dsimp only; done) | (dsimp only; exact rfl) | exact rfl)); exact rfl; (repeat (first | (apply NR.cons; exact rfl) | exact NR.nil rfl)))  | apply PB.cons rfl)) ?_) | ((first | apply U_ | (apply Ug_; exact rfl; exact rfl) | (apply Ugq_; exact rfl; exact rfl) | apply Lex.u | (apply Lex.g; exact rfl; exact rfl) | (apply Lex.gq; exact rfl; exact rfl)); (first | exact QX.B TYok | exact QX.Len TYok | exact QX.Idx TYok | exact QX.Ext TYok | exact QX.Build TYok | exact QX.Cut TYok | exact QCd (h4) | exact QCd (h5)); exact rfl) | refine SX.Alloc TYok (h := ?_) | refine SX.Store TYok (h := ?_) | refine SX.Box TYok (h := ?_) | refine SC ?_ | (apply RG.gT; exact rfl; exact rfl; (first | assumption | decide)) | (apply RG.gF; exact rfl; exact rfl; (first | assumption | decide | (rw [ne_eq, Bool.not_eq_true]; assumption) | (rw [ne_eq, Bool.not_eq_false]; assumption)); exact rfl) | (apply W.draw2 (id := 8) [0, 1, 0, 7, 15, 0, 32, 127, 255, 511, 511, 511, 1023, 6143, 16383] [[1], [31], [3], [32, 33], [34], [4], [36], [35, 37], [38], [30], [30], [30], [39], [40], [41]] 15 [(31, 2), (32, 2147483648), (33, 8), (34, 12884901888), (35, 17179869184), (36, 16), (37, 68719476736), (38, 171798691840), (30, 274877906944), (39, 1073741824), (40, 1073741824), (41, 1073741824), (5, 549755813888), (6, 1099511627776), (7, 2199023255552)] mixed (by kernel_rfl) rfl rfl) | (refine W.condA (ht := fun hb => ?_) (hf := fun hb => ?_) <;> (try simp at hb) <;> (try (exfalso; omega))))
        all_goals first
          | (exfalso; omega)
          | skip
        apply W.loopP (σ := Nat) 89 [1, 66, 67] (fun k => k ≤ x.covs.length ∧ firstE (covE x.lets x.covs) k = 0) (fun k => [(68, vI k)]) (fun _ => []) (fun k => x.covs.length - k) (0)
        case hp => repeat (first | exact Pick.nil | apply Pick.cons rfl)
        case h0 =>
          refine ⟨⟨by simp, rfl⟩, ?_⟩
          exact Le.auto
        case round =>
          rintro k ⟨g3, g4⟩
          apply W.norm (by repeat (first | exact App.nil | apply App.cons))
          by_cases hk : k < x.covs.length
          · have c6 := h6 k hk
            have kl := fun v hv => kv rfl hk g4 (v := v) hv
            have hs : covE x.lets x.covs k = 0 → firstE (covE x.lets x.covs) (k + 1) = 0 := fun q => by rw [firstE, if_neg (by omega)]; exact q
            unfold covE at kl hs
            generalize (ofT x.lets (nth x.covs k).must) = T' at *
            have hf := first_ok T'.e 13
            by_cases he' : T'.e = 0
            case neg =>
              rw [if_pos he'] at kl hf
              rw [kl T'.e rfl he']
              repeat' (first | (refine W.weaken (Le.freeze1 (m := 12) rfl) ?_) | (refine W.purgeR [(19, [1, 66, 67, 68]), (20, [1, 12, 66, 67, 68]), (21, [1, 13, 15, 66, 67, 68])] rfl (by repeat (first | exact PN.nil | apply PN.po rfl | (apply PN.pa; exact rfl; (repeat (first | (apply NR.cons; exact rfl) | exact NR.nil rfl))) | apply PN.a rfl | apply PN.s rfl | apply PN.u rfl | apply PN.m rfl | apply PN.k rfl | apply PN.i rfl | apply PN.skip)) (by repeat (first | exact PB.nil | (apply PB.one; exact rfl; (focus (first | (dsimp only; done) | (dsimp only; exact rfl) | exact rfl)); (focus (first | (dsimp only; done) | (dsimp only; exact rfl) | exact rfl)); exact rfl; (repeat (first | (apply NR.cons; exact rfl) | exact NR.nil rfl)))  | apply PB.cons rfl)) ?_) | ((first | apply U_ | (apply Ug_; exact rfl; exact rfl) | (apply Ugq_; exact rfl; exact rfl) | apply Lex.u | (apply Lex.g; exact rfl; exact rfl) | (apply Lex.gq; exact rfl; exact rfl)); (first | exact QX.B TYok | exact QX.Len TYok | exact QX.Idx TYok | exact QX.Ext TYok | exact QX.Build TYok | exact QX.Cut TYok | exact QCd (c6) | exact QCd (hf)); exact rfl) | refine SX.Alloc TYok (h := ?_) | refine SX.Store TYok (h := ?_) | refine SX.Box TYok (h := ?_) | refine SC ?_ | (apply RG.gT; exact rfl; exact rfl; (first | assumption | decide)) | (apply RG.gF; exact rfl; exact rfl; (first | assumption | decide | (rw [ne_eq, Bool.not_eq_true]; assumption) | (rw [ne_eq, Bool.not_eq_false]; assumption)); exact rfl) | (apply W.draw2 (id := 8) [0, 1, 0, 7, 15, 0, 32, 127, 255, 511, 511, 511, 1023, 6143, 16383] [[1], [31], [3], [32, 33], [34], [4], [36], [35, 37], [38], [30], [30], [30], [39], [40], [41]] 15 [(31, 2), (32, 2147483648), (33, 8), (34, 12884901888), (35, 17179869184), (36, 16), (37, 68719476736), (38, 171798691840), (30, 274877906944), (39, 1073741824), (40, 1073741824), (41, 1073741824), (5, 549755813888), (6, 1099511627776), (7, 2199023255552)] mixed (by kernel_rfl) rfl rfl) | (refine W.condA (ht := fun hb => ?_) (hf := fun hb => ?_) <;> (try simp at hb) <;> (try (exfalso; omega))))
              all_goals first
                | exact Fin.ret ResL.auto
                | (exfalso; omega)
                | trace_state
            case pos =>
            rw [if_neg (by omega)] at kl hs hf
            by_cases hu' : T'.u = 4
            case neg =>
              rw [if_pos hu'] at kl
              rw [kl 13 rfl (by decide)]
              repeat' (first | (refine W.weaken (Le.freeze1 (m := 12) rfl) ?_) | (refine W.purgeR [(19, [1, 66, 67, 68]), (20, [1, 12, 66, 67, 68]), (21, [1, 13, 15, 66, 67, 68])] rfl (by repeat (first | exact PN.nil | apply PN.po rfl | (apply PN.pa; exact rfl; (repeat (first | (apply NR.cons; exact rfl) | exact NR.nil rfl))) | apply PN.a rfl | apply PN.s rfl | apply PN.u rfl | apply PN.m rfl | apply PN.k rfl | apply PN.i rfl | apply PN.skip)) (by repeat (first | exact PB.nil | (apply PB.one; exact rfl; (focus (first | (dsimp only; done) | (dsimp only; exact rfl) | exact rfl)); (focus (first | (dsimp only; done) | (dsimp only; exact rfl) | exact rfl)); exact rfl; (repeat (first | (apply NR.cons; exact rfl) | exact NR.nil rfl)))  | apply PB.cons rfl)) ?_) | ((first | apply U_ | (apply Ug_; exact rfl; exact rfl) | (apply Ugq_; exact rfl; exact rfl) | apply Lex.u | (apply Lex.g; exact rfl; exact rfl) | (apply Lex.gq; exact rfl; exact rfl)); (first | exact QX.B TYok | exact QX.Len TYok | exact QX.Idx TYok | exact QX.Ext TYok | exact QX.Build TYok | exact QX.Cut TYok | exact QCd (c6) | exact QCd (hf)); exact rfl) | refine SX.Alloc TYok (h := ?_) | refine SX.Store TYok (h := ?_) | refine SX.Box TYok (h := ?_) | refine SC ?_ | (apply RG.gT; exact rfl; exact rfl; (first | assumption | decide)) | (apply RG.gF; exact rfl; exact rfl; (first | assumption | decide | (rw [ne_eq, Bool.not_eq_true]; assumption) | (rw [ne_eq, Bool.not_eq_false]; assumption)); exact rfl) | (apply W.draw2 (id := 8) [0, 1, 0, 7, 15, 0, 32, 127, 255, 511, 511, 511, 1023, 6143, 16383] [[1], [31], [3], [32, 33], [34], [4], [36], [35, 37], [38], [30], [30], [30], [39], [40], [41]] 15 [(31, 2), (32, 2147483648), (33, 8), (34, 12884901888), (35, 17179869184), (36, 16), (37, 68719476736), (38, 171798691840), (30, 274877906944), (39, 1073741824), (40, 1073741824), (41, 1073741824), (5, 549755813888), (6, 1099511627776), (7, 2199023255552)] mixed (by kernel_rfl) rfl rfl) | (refine W.condA (ht := fun hb => ?_) (hf := fun hb => ?_) <;> (try simp at hb) <;> (try (exfalso; omega))))
              all_goals first
                | exact Fin.ret ResL.auto
                | (exfalso; omega)
                | trace_state
            case pos =>
            rw [if_neg (by omega)] at kl hs
            repeat' (first | (refine W.weaken (Le.freeze1 (m := 12) rfl) ?_) | (refine W.purgeR [(19, [1, 66, 67, 68]), (20, [1, 12, 66, 67, 68]), (21, [1, 13, 15, 66, 67, 68])] rfl (by repeat (first | exact PN.nil | apply PN.po rfl | (apply PN.pa; exact rfl; (repeat (first | (apply NR.cons; exact rfl) | exact NR.nil rfl))) | apply PN.a rfl | apply PN.s rfl | apply PN.u rfl | apply PN.m rfl | apply PN.k rfl | apply PN.i rfl | apply PN.skip)) (by repeat (first | exact PB.nil | (apply PB.one; exact rfl; (focus (first | (dsimp only; done) | (dsimp only; exact rfl) | exact rfl)); (focus (first | (dsimp only; done) | (dsimp only; exact rfl) | exact rfl)); exact rfl; (repeat (first | (apply NR.cons; exact rfl) | exact NR.nil rfl)))  | apply PB.cons rfl)) ?_) | ((first | apply U_ | (apply Ug_; exact rfl; exact rfl) | (apply Ugq_; exact rfl; exact rfl) | apply Lex.u | (apply Lex.g; exact rfl; exact rfl) | (apply Lex.gq; exact rfl; exact rfl)); (first | exact QX.B TYok | exact QX.Len TYok | exact QX.Idx TYok | exact QX.Ext TYok | exact QX.Build TYok | exact QX.Cut TYok | exact QCd (c6) | exact QCd (hf)); exact rfl) | refine SX.Alloc TYok (h := ?_) | refine SX.Store TYok (h := ?_) | refine SX.Box TYok (h := ?_) | refine SC ?_ | (apply RG.gT; exact rfl; exact rfl; (first | assumption | decide)) | (apply RG.gF; exact rfl; exact rfl; (first | assumption | decide | (rw [ne_eq, Bool.not_eq_true]; assumption) | (rw [ne_eq, Bool.not_eq_false]; assumption)); exact rfl) | (apply W.draw2 (id := 8) [0, 1, 0, 7, 15, 0, 32, 127, 255, 511, 511, 511, 1023, 6143, 16383] [[1], [31], [3], [32, 33], [34], [4], [36], [35, 37], [38], [30], [30], [30], [39], [40], [41]] 15 [(31, 2), (32, 2147483648), (33, 8), (34, 12884901888), (35, 17179869184), (36, 16), (37, 68719476736), (38, 171798691840), (30, 274877906944), (39, 1073741824), (40, 1073741824), (41, 1073741824), (5, 549755813888), (6, 1099511627776), (7, 2199023255552)] mixed (by kernel_rfl) rfl rfl) | (refine W.condA (ht := fun hb => ?_) (hf := fun hb => ?_) <;> (try simp at hb) <;> (try (exfalso; omega))))
            all_goals first
              | (refine ⟨k + 1, ⟨by omega, hs rfl⟩, ?_, by (try simp only); omega⟩; exact Le.auto)
              | (exfalso; omega)
              | trace_state
          · obtain rfl : k = x.covs.length := by omega
            rw [ka rfl, g4]
            repeat' (first | ((first | apply U_ | (apply Ug_; exact rfl; exact rfl) | (apply Ugq_; exact rfl; exact rfl) | apply Lex.u | (apply Lex.g; exact rfl; exact rfl) | (apply Lex.gq; exact rfl; exact rfl)); (first | exact QX.B TYok | exact QX.Len TYok | exact QX.Idx TYok | exact QX.Ext TYok | exact QX.Build TYok | exact QX.Cut TYok); exact rfl) | refine SX.Alloc TYok (h := ?_) | refine SX.Store TYok (h := ?_) | refine SX.Box TYok (h := ?_) | refine SC ?_ | (apply RG.gT; exact rfl; exact rfl; (first | assumption | decide)) | (apply RG.gF; exact rfl; exact rfl; (first | assumption | decide | (rw [ne_eq, Bool.not_eq_true]; assumption) | (rw [ne_eq, Bool.not_eq_false]; assumption)); exact rfl) | (apply W.draw2 (id := 8) [0, 1, 0, 7, 15, 0, 32, 127, 255, 511, 511, 511, 1023, 6143, 16383] [[1], [31], [3], [32, 33], [34], [4], [36], [35, 37], [38], [30], [30], [30], [39], [40], [41]] 15 [(31, 2), (32, 2147483648), (33, 8), (34, 12884901888), (35, 17179869184), (36, 16), (37, 68719476736), (38, 171798691840), (30, 274877906944), (39, 1073741824), (40, 1073741824), (41, 1073741824), (5, 549755813888), (6, 1099511627776), (7, 2199023255552)] mixed (by kernel_rfl) rfl rfl) | (refine W.condA (ht := fun hb => ?_) (hf := fun hb => ?_) <;> (try simp at hb) <;> (try (exfalso; omega))))
            all_goals first
              | exact Fin.ret ResL.auto
              | (exfalso; omega)
              | trace_state
end
end Go.Proofs.Ytppdbmobcfedcaa
end
section
set_option linter.unusedVariables false
set_option linter.unusedSimpArgs false
set_option maxHeartbeats 8000000
set_option linter.unusedSectionVars false
namespace Go.Proofs.Ytppdbmobcfedcaa
open Lf Go
attribute [local irreducible] PureOp EffOp Ev RG W Then InBlock Lf.Fin nth App InitE Pick SubE EvL EvD EvP EvR ResL Lf.Lex SubR SubBR RA RAll EvC FinO FinM ResM
section
theorem ints_ok (a b : List Int) (ha : a.length ≤ 9223372036854775807) (hB : b.length ≤ 9223372036854775807) : ACalls Try.prog 10 [slJ a, slJ b] (.pv (cB (decide (a = b)))) := by
  by_cases hl : a.length = b.length
  case neg =>
    rw [decide_eq_false (fun q => hl (by rw [q]))]
    refine ACalls.of_W (qs := [cB false]) [4] 26 Try.func10 (by kernel_rfl) rfl rfl rfl fun G => ?_
    refine W.initA (hw := ?_)
    repeat' (first | ((first | apply U_ | apply Lex.u | (apply Lex.g; exact rfl; exact rfl) | (apply Lex.gq; exact rfl; exact rfl)); (first | exact QX.B TYok | exact QX.Len TYok | exact QX.Idx TYok); exact rfl) | refine SC ?_ | (apply W.draw2 (id := 6) [0, 0, 3, 7, 0, 0, 48, 112, 255] [[0], [5], [17, 18], [19], [1], [5], [21, 22], [23], [20, 24]] 9 [(17, 1), (18, 32), (19, 393216), (20, 524288), (21, 2), (22, 32), (23, 6291456), (24, 8388608), (25, 17825792)] mixed (by kernel_rfl) rfl rfl) | (refine W.condA (ht := fun hb => ?_) (hf := fun hb => ?_) <;> (try simp at hb) <;> (try (exfalso; omega))))
    all_goals first
      | exact Fin.ret ResL.auto
      | (exfalso; omega)
      | trace_state
  case pos =>
    refine ACalls.of_W (qs := [cB (decide (a = b))]) [4] 26 Try.func10 (by kernel_rfl) rfl rfl rfl fun G => ?_
    refine W.initA (hw := ?_)
    repeat' (first | ((first | apply U_ | apply Lex.u | (apply Lex.g; exact rfl; exact rfl) | (apply Lex.gq; exact rfl; exact rfl)); (first | exact QX.B TYok | exact QX.Len TYok | exact QX.Idx TYok); exact rfl) | refine SC ?_ | (apply W.draw2 (id := 6) [0, 0, 3, 7, 0, 0, 48, 112, 255] [[0], [5], [17, 18], [19], [1], [5], [21, 22], [23], [20, 24]] 9 [(17, 1), (18, 32), (19, 393216), (20, 524288), (21, 2), (22, 32), (23, 6291456), (24, 8388608), (25, 17825792)] mixed (by kernel_rfl) rfl rfl) | (refine W.condA (ht := fun hb => ?_) (hf := fun hb => ?_) <;> (try simp at hb) <;> (try (exfalso; omega))))
    all_goals first
      | (exfalso; omega)
      | skip
    apply W.loopP (σ := Nat) 26 [0, 1] (fun k => k ≤ a.length ∧ ∀ j, j < k → nth a j = nth b j) (fun k => [(5, vI k)]) (fun _ => []) (fun k => a.length - k) (0)
    case hp => repeat (first | exact Pick.nil | apply Pick.cons rfl)
    case h0 =>
      refine ⟨⟨by simp, fun j hj => absurd hj (by omega)⟩, ?_⟩
      exact Le.auto
    case round =>
      rintro k ⟨h1, h2⟩
      apply W.norm (by repeat (first | exact App.nil | apply App.cons))
      by_cases hk : k < a.length
      · repeat' (first | ((first | apply U_ | apply Lex.u | (apply Lex.g; exact rfl; exact rfl) | (apply Lex.gq; exact rfl; exact rfl)); (first | exact QX.B TYok | exact QX.Len TYok | exact QX.Idx TYok); exact rfl) | refine SC ?_ | (apply W.draw2 (id := 6) [0, 0, 3, 7, 0, 0, 48, 112, 255] [[0], [5], [17, 18], [19], [1], [5], [21, 22], [23], [20, 24]] 9 [(17, 1), (18, 32), (19, 393216), (20, 524288), (21, 2), (22, 32), (23, 6291456), (24, 8388608), (25, 17825792)] mixed (by kernel_rfl) rfl rfl) | (refine W.condA (ht := fun hb => ?_) (hf := fun hb => ?_) <;> (try simp at hb) <;> (try (exfalso; omega))))
        all_goals first
          | (rw [decide_eq_false (fun q => hb (by rw [q]))]; exact Fin.ret ResL.auto)
          | (refine ⟨k + 1, ⟨by omega, fun j hj => ?_⟩, ?_, by (try simp only); omega⟩
             · by_cases e : j = k
               · subst e; exact hb
               · exact h2 j (by omega)
             · exact Le.auto)
          | trace_state
      · obtain rfl : k = a.length := by omega
        have e : a = b := List.ext_getElem hl fun j q1 q2 => by
          have := h2 j q1
          rw [nth_eq q1, nth_eq q2] at this
          exact this
        rw [decide_eq_true e]
        repeat' (first | ((first | apply U_ | apply Lex.u | (apply Lex.g; exact rfl; exact rfl) | (apply Lex.gq; exact rfl; exact rfl)); (first | exact QX.B TYok | exact QX.Len TYok | exact QX.Idx TYok); exact rfl) | refine SC ?_ | (apply W.draw2 (id := 6) [0, 0, 3, 7, 0, 0, 48, 112, 255] [[0], [5], [17, 18], [19], [1], [5], [21, 22], [23], [20, 24]] 9 [(17, 1), (18, 32), (19, 393216), (20, 524288), (21, 2), (22, 32), (23, 6291456), (24, 8388608), (25, 17825792)] mixed (by kernel_rfl) rfl rfl) | (refine W.condA (ht := fun hb => ?_) (hf := fun hb => ?_) <;> (try simp at hb) <;> (try (exfalso; omega))))
        exact Fin.ret ResL.auto
def nodesK (f : Exp → Int → Int) (l : List Exp) (m : Int) : Nat → Int
  | 0 => 1
  | k + 1 => if nodesK f l m k ≤ m then nodesK f l m k + f (nth l k) (m - nodesK f l m k) else nodesK f l m k
def nodesF : Nat → Exp → Int → Int
  | 0, _, m => m + 1
  | d + 1, .mk _ _ _ s l, m => if 40 < s.length then m + 1 else nodesK (fun e k => nodesF d e k) l m l.length
theorem nodesK_bd {f : Exp → Int → Int} (hf : ∀ e m, 0 ≤ m → 1 ≤ f e m ∧ f e m ≤ m + 1) {l : List Exp} {m : Int} (hm : 0 ≤ m) : ∀ k, 1 ≤ nodesK f l m k ∧ nodesK f l m k ≤ m + 1
  | 0 => by rw [nodesK]; omega
  | k + 1 => by
    have ih := nodesK_bd hf (l := l) hm k
    rw [nodesK]
    split
    · have := hf (nth l k) (m - nodesK f l m k) (by omega)
      omega
    · exact ih
theorem nodesF_bd : ∀ (d : Nat) (e : Exp) (m : Int), 0 ≤ m → 1 ≤ nodesF d e m ∧ nodesF d e m ≤ m + 1
  | 0, e, m, h => by rw [nodesF]; omega
  | d + 1, .mk _ _ _ s l, m, h => by
    rw [nodesF]
    split
    · omega
    · exact nodesK_bd (fun e k hk => nodesF_bd d e k hk) h _
theorem nodesK_stop {f : Exp → Int → Int} {l : List Exp} {m : Int} {k : Nat} (h : m < nodesK f l m k) : ∀ j, nodesK f l m (k + j) = nodesK f l m k
  | 0 => rfl
  | j + 1 => by
    have := nodesK_stop h j
    rw [← Nat.add_assoc, nodesK, this, if_neg (by omega)]
theorem nodes_ok : ∀ (d : Nat) (e : Exp) (m : Int), d ≤ 100 → 0 ≤ m → m ≤ 100 → OkE e → ACalls Try.prog 42 [aE e, cI m, cI (d : Int)] (.pv (cI (nodesF d e m)))
  | 0, .mk op n u s l, m, _, h0, h1, he => by
    rw [aE_mk, nodesF]
    refine ACalls.of_W (qs := [cI (m + 1)]) [6] 45 Try.func42 (by kernel_rfl) rfl rfl rfl fun G => ?_
    refine W.initA (hw := ?_)
    repeat' (first | ((first | apply U_ | (apply Ug_; exact rfl; exact rfl) | (apply Ugq_; exact rfl; exact rfl)); (first | exact QX.B TYok | exact QX.Len TYok | exact QX.Idx TYok); exact rfl) | refine SX.Box TYok (h := ?_) | refine SC ?_ | (apply RG.gT; exact rfl; exact rfl; (first | assumption | decide)) | (apply RG.gF; exact rfl; exact rfl; (first | assumption | decide | (rw [ne_eq, Bool.not_eq_true]; assumption) | (rw [ne_eq, Bool.not_eq_false]; assumption)); exact rfl) | (refine W.condA (ht := fun hb => ?_) (hf := fun hb => ?_) <;> (try simp at hb) <;> (try (exfalso; omega))))
    all_goals first
      | exact Fin.ret ResL.auto
      | (exfalso; omega)
      | trace_state
  | d + 1, .mk op n u s l, m, hd, h0, h1, he => by
    cases he with
    | mk hs hl h =>
    have ih : ∀ x ∈ l, ∀ k : Int, 0 ≤ k → k ≤ 100 → ACalls Try.prog 42 [aE x, cI k, cI (((d + 1 : Nat) : Int) - 1)] (.pv (cI (nodesF d x k))) := by
      intro x hx k hk1 hk2
      rw [show (((d + 1 : Nat) : Int) - 1) = (d : Int) by omega]
      exact nodes_ok d x k (by omega) hk1 hk2 (h x hx)
    rw [aE_mk, nodesF]
    by_cases h6 : 40 < s.length
    · rw [if_pos h6]
      refine ACalls.of_W (qs := [cI (m + 1)]) [6] 45 Try.func42 (by kernel_rfl) rfl rfl rfl fun G => ?_
      refine W.initA (hw := ?_)
      repeat' (first | ((first | apply U_ | (apply Ug_; exact rfl; exact rfl) | (apply Ugq_; exact rfl; exact rfl)); (first | exact QX.B TYok | exact QX.Len TYok | exact QX.Idx TYok); exact rfl) | refine SX.Box TYok (h := ?_) | refine SC ?_ | (apply RG.gT; exact rfl; exact rfl; (first | assumption | decide)) | (apply RG.gF; exact rfl; exact rfl; (first | assumption | decide | (rw [ne_eq, Bool.not_eq_true]; assumption) | (rw [ne_eq, Bool.not_eq_false]; assumption)); exact rfl) | (refine W.condA (ht := fun hb => ?_) (hf := fun hb => ?_) <;> (try simp at hb) <;> (try (exfalso; omega))))
      all_goals first
        | exact Fin.ret ResL.auto
        | (exfalso; omega)
        | trace_state
    rw [if_neg h6]
    have hbd := fun k => nodesK_bd (f := fun e k => nodesF d e k) (fun e k hk => nodesF_bd d e k hk) (l := l) h0 k
    have hst := fun k (q : m < nodesK (fun e k => nodesF d e k) l m k) => nodesK_stop q
    have hsu := fun k (q : nodesK (fun e k => nodesF d e k) l m k ≤ m) => show nodesK (fun e k => nodesF d e k) l m (k + 1) = nodesK (fun e k => nodesF d e k) l m k + nodesF d (nth l k) (m - nodesK (fun e k => nodesF d e k) l m k) by rw [nodesK, if_pos q]
    have h00 : nodesK (fun e k => nodesF d e k) l m 0 = 1 := rfl
    generalize nodesK (fun e k => nodesF d e k) l m = F at *
    refine ACalls.of_W (qs := [cI (F l.length)]) [6] 45 Try.func42 (by kernel_rfl) rfl rfl rfl fun G => ?_
    refine W.initA (hw := ?_)
    repeat' (first | ((first | apply U_ | (apply Ug_; exact rfl; exact rfl) | (apply Ugq_; exact rfl; exact rfl)); (first | exact QX.B TYok | exact QX.Len TYok | exact QX.Idx TYok); exact rfl) | refine SX.Box TYok (h := ?_) | refine SC ?_ | (apply RG.gT; exact rfl; exact rfl; (first | assumption | decide)) | (apply RG.gF; exact rfl; exact rfl; (first | assumption | decide | (rw [ne_eq, Bool.not_eq_true]; assumption) | (rw [ne_eq, Bool.not_eq_false]; assumption)); exact rfl) | (refine W.condA (ht := fun hb => ?_) (hf := fun hb => ?_) <;> (try simp at hb) <;> (try (exfalso; omega))))
    all_goals first
      | (exfalso; omega)
      | skip
    apply W.loopP (σ := Nat) 45 [1, 2, 3] (fun k => k ≤ l.length) (fun k => [(7, (True, .pv (cI (F k)))), (8, vI k)]) (fun _ => [(3, ⟨25, 5, [[.int .i64 op, .int .i64 n, .int .i64 u, .str s, .sl (l.map encX)]]⟩)]) (fun k => l.length - k) (0)
    case hp => repeat (first | exact Pick.nil | apply Pick.cons rfl)
    case h0 =>
      refine ⟨by simp, ?_⟩
      rw [h00]
      exact Le.auto
    case round =>
      rintro k hk1
      apply W.norm (by repeat (first | exact App.nil | apply App.cons))
      have q1 := hbd k
      by_cases hk : k < l.length ∧ F k ≤ m
      · have q2 := ih (nth l k) (nth_mem hk.1) (m - F k) (by omega) (by omega)
        have q3 := hsu k hk.2
        have q4 := hbd (k + 1)
        have q5 := hk.1
        have q6 := nodesF_bd d (nth l k) (m - F k) (by omega)
        generalize nodesF d (nth l k) (m - F k) = z at *
        repeat' (first | ((first | apply U_ | (apply Ug_; exact rfl; exact rfl) | (apply Ugq_; exact rfl; exact rfl)); (first | exact QX.B TYok | exact QX.Len TYok | exact QX.Idx TYok | exact QCl (q2)); exact rfl) | refine SX.Box TYok (h := ?_) | refine SC ?_ | (apply RG.gT; exact rfl; exact rfl; (first | assumption | decide)) | (apply RG.gF; exact rfl; exact rfl; (first | assumption | decide | (rw [ne_eq, Bool.not_eq_true]; assumption) | (rw [ne_eq, Bool.not_eq_false]; assumption)); exact rfl) | (refine W.condA (ht := fun hb => ?_) (hf := fun hb => ?_) <;> (try simp at hb) <;> (try (exfalso; omega))))
        all_goals first
          | (exfalso; omega)
          | (refine ⟨k + 1, by omega, ?_, by (try simp only); omega⟩; simp only [q3]; exact Le.auto)
          | trace_state
      · have e : F l.length = F k := by
          by_cases hk2 : k = l.length
          · rw [hk2]
          · have := hst k (by omega) (l.length - k)
            rwa [show k + (l.length - k) = l.length by omega] at this
        rw [e]
        repeat' (first | ((first | apply U_ | (apply Ug_; exact rfl; exact rfl) | (apply Ugq_; exact rfl; exact rfl)); (first | exact QX.B TYok | exact QX.Len TYok | exact QX.Idx TYok); exact rfl) | refine SX.Box TYok (h := ?_) | refine SC ?_ | (apply RG.gT; exact rfl; exact rfl; (first | assumption | decide)) | (apply RG.gF; exact rfl; exact rfl; (first | assumption | decide | (rw [ne_eq, Bool.not_eq_true]; assumption) | (rw [ne_eq, Bool.not_eq_false]; assumption)); exact rfl) | (refine W.condA (ht := fun hb => ?_) (hf := fun hb => ?_) <;> (try simp at hb) <;> (try (exfalso; omega))))
        all_goals first
          | exact Fin.ret ResL.auto
          | (exfalso; omega)
          | trace_state
def fewX (e : Exp) : Bool := decide (nodesF 16 e 60 ≤ 60)
theorem fewX_ok (e : Exp) (he : OkE e) : ACalls Try.prog 22 [aE e] (.pv (cB (fewX e))) := by
  have h := nodes_ok 16 e 60 (by omega) (by omega) (by omega) he
  unfold fewX
  refine ACalls.of_W (qs := [cB (decide (nodesF 16 e 60 ≤ 60))]) [2] 6 Try.func22 (by kernel_rfl) rfl rfl rfl fun G => ?_
  refine W.initA (hw := ?_)
  repeat' (first | ((first | apply U_); (first | exact QX.B TYok | exact QCd (h)); exact rfl) | refine SX.Box TYok (h := ?_) | refine SC ?_ | (refine W.condA (ht := fun hb => ?_) (hf := fun hb => ?_) <;> (try simp at hb) <;> (try (exfalso; omega))))
  exact Fin.ret ResL.auto
end
end Go.Proofs.Ytppdbmobcfedcaa
end
section
set_option linter.unusedVariables false
set_option linter.unusedSimpArgs false
set_option maxHeartbeats 8000000
set_option linter.unusedSectionVars false
namespace Go.Proofs.Ytppdbmobcfedcaa
open Lf Go
attribute [local irreducible] PureOp EffOp Ev RG W Then InBlock Lf.Fin nth App InitE Pick SubE EvL EvD EvP EvR ResL Lf.Lex SubR SubBR RA RAll EvC FinO FinM ResM
section
theorem args_sub {P : Program} {f : Nat} {p p' : PV} {ps : List PV} {r : AV} (h : ACalls P f (p :: ps) r) (hs : PSub p' p) : ACalls P f (p' :: ps) r := ⟨h.fn, fun Φ w vs hfit harg => h.calls Φ w vs hfit ⟨harg.1, fun j q hq => by
  cases j with
  | zero =>
    simp at hq; subst hq
    obtain ⟨v, h1, h2⟩ := harg.2 0 p' rfl
    exact ⟨v, h1, h2.sub hs⟩
  | succ j => exact harg.2 (j + 1) q hq⟩⟩
theorem leaf_sub {op n u : Int} {s : Str} : PSub (.agg [.int .i64 op, .int .i64 n, .int .i64 u, .str s, .slnil]) (.agg [.int .i64 op, .int .i64 n, .int .i64 u, .str s, .sl []]) := ⟨.refl _, .refl _, .refl _, .refl _, .nil, trivial⟩
abbrev lf (op n u : Int) (s : Str) : List Cell := [.int .i64 op, .int .i64 n, .int .i64 u, .str s, .sl []]
abbrev nd (op : Int) (a b : List Cell) : List Cell := [.int .i64 op, .int .i64 0, .int .i64 0, .str [], .sl [a, b]]
theorem num_ok (n u : Int) : ACalls Try.prog 17 [cI n, cI u] (.pv (.agg (lf 0 n u []))) := by
  refine ACalls.of_M TYok (qs := [.agg (lf 0 n u [])]) [.cell 4 25] 8 Try.func17 (by kernel_rfl) rfl rfl rfl fun G => ?_
  refine W.initA (hw := ?_)
  repeat' (first | ((first | apply U_); (first | exact QX.B TYok | exact QX.Build TYok); exact rfl) | refine SX.Alloc TYok (h := ?_) | refine SX.Store TYok (h := ?_) | refine SC ?_ | (refine W.condA (ht := fun hb => ?_) (hf := fun hb => ?_) <;> (try simp at hb) <;> (try (exfalso; omega))))
  all_goals (refine FinM.ret (ResM.cell rfl rfl rfl rfl ?_ ResM.nil); exact leaf_sub)
theorem named_ok (op : Int) (s : Str) : ACalls Try.prog 18 [cI op, cS s] (.pv (.agg (lf op 0 0 s))) := by
  refine ACalls.of_M TYok (qs := [.agg (lf op 0 0 s)]) [.cell 4 25] 8 Try.func18 (by kernel_rfl) rfl rfl rfl fun G => ?_
  refine W.initA (hw := ?_)
  repeat' (first | ((first | apply U_); (first | exact QX.B TYok | exact QX.Build TYok); exact rfl) | refine SX.Alloc TYok (h := ?_) | refine SX.Store TYok (h := ?_) | refine SC ?_ | (refine W.condA (ht := fun hb => ?_) (hf := fun hb => ?_) <;> (try simp at hb) <;> (try (exfalso; omega))))
  all_goals (refine FinM.ret (ResM.cell rfl rfl rfl rfl ?_ ResM.nil); exact leaf_sub)
theorem two_ok (op a1 a2 a3 c1 c2 c3 : Int) (a4 c4 : Str) (a5 c5 : List (List Cell)) : ACalls Try.prog 20 [cI op, .agg [.int .i64 a1, .int .i64 a2, .int .i64 a3, .str a4, .sl a5], .agg [.int .i64 c1, .int .i64 c2, .int .i64 c3, .str c4, .sl c5]] (.pv (.agg (nd op [.int .i64 a1, .int .i64 a2, .int .i64 a3, .str a4, .sl a5] [.int .i64 c1, .int .i64 c2, .int .i64 c3, .str c4, .sl c5]))) := by
  refine ACalls.of_M TYok (qs := [.agg (nd op [.int .i64 a1, .int .i64 a2, .int .i64 a3, .str a4, .sl a5] [.int .i64 c1, .int .i64 c2, .int .i64 c3, .str c4, .sl c5])]) [.cell 6 25] 12 Try.func20 (by kernel_rfl) rfl rfl rfl fun G => ?_
  refine W.initA (hw := ?_)
  repeat' (first | ((first | apply U_); (first | (apply Q_litD TYok; apply EvR.cons Ev.auto; (repeat (first | exact EvR.nil | apply EvR.cons Ev.auto)); exact rfl; exact rfl; exact rfl; exact rfl; exact rfl; exact rfl) | exact QX.B TYok | exact QX.Build TYok); exact rfl) | refine SX.Alloc TYok (h := ?_) | refine SX.Store TYok (h := ?_) | refine SX.Lit TYok (h := ?_) | refine SX.Box TYok (h := ?_) | refine SC ?_ | (refine W.condA (ht := fun hb => ?_) (hf := fun hb => ?_) <;> (try simp at hb) <;> (try (exfalso; omega))))
  all_goals exact FinM.ret ResM.auto
def MARGIN : Str := [109, 97, 114, 103, 105, 110]
def DEBT : Str := [100, 101, 98, 116]
def PROFIT : Str := [112, 114, 111, 102, 105, 116]
def ALPHA : Str := [97, 108, 112, 104, 97]
def OTHER : Str := [111, 116, 104, 101, 114]
def lets0 : List Let := [⟨MARGIN, .mk 0 20 2 [] []⟩]
theorem lin0 : LIn lets0 := ⟨by decide, fun y hy => by
  rw [List.mem_singleton.1 hy]
  exact .mk (by decide) (by decide) (fun x hx => by cases hx)⟩
abbrev x0 : PV := .agg [.str [], .str [], .int .i64 0, .int .i64 0, .int .i64 0, .int .i64 0, .int .i64 0, .int .i64 0, .int .i64 0, .int .i64 0, .sl [[.str MARGIN, .int .i64 0, .int .i64 20, .int .i64 2, .str [], .sl []]], .int .i64 0, .int .i64 0, .int .i64 0, .str [], .slnil, .int .i64 0, .slnil, .slnil, .int .i64 0, .slnil, .int .i64 0, .int .i64 0, .int .i64 0, .int .i64 0]
theorem of0 {e : Exp} (he : OkE e) : ACalls Try.prog 8 [x0, aE e] (otP (ofT lets0 e)) := ofT_ok lin0 he
theorem is_ok (a1 a2 a3 : Int) (a4 : Str) (a5 : List (List Cell)) (u u' : Int) (p : List Int) (x : Int) (h : ACalls Try.prog 8 [x0, .agg [.int .i64 a1, .int .i64 a2, .int .i64 a3, .str a4, .sl a5]] (.tup [cI u, .one (.sl (p.map encJ)), cI x])) : ACalls Try.prog 19 [.agg [.int .i64 a1, .int .i64 a2, .int .i64 a3, .str a4, .sl a5], cI u'] (.pv (cB (decide (u = u') && decide ((p.length : Int) = 0) && decide (x = 0)))) := by
  have n1 := num_ok 20 2
  refine ACalls.of_W (qs := [cB (decide (u = u') && decide ((p.length : Int) = 0) && decide (x = 0))]) [4] 32 Try.func19 (by kernel_rfl) rfl rfl rfl fun G => ?_
  refine W.initA (hw := ?_)
  repeat' (first | (refine W.weaken (Le.freeze1 (m := 2) rfl) ?_) | ((first | apply U_ | (apply Ug_; exact rfl; exact rfl) | (apply Ugq_; exact rfl; exact rfl)); (first | (apply Q_litD TYok; apply EvR.cons Ev.auto; (repeat (first | exact EvR.nil | apply EvR.cons Ev.auto)); exact rfl; exact rfl; exact rfl; exact rfl; exact rfl; exact rfl) | exact QX.B TYok | exact QX.Len TYok | exact QX.Ext TYok | exact QX.Build TYok | exact QCd (n1) | exact QCd (h)); exact rfl) | refine SX.Alloc TYok (h := ?_) | refine SX.Store TYok (h := ?_) | refine SX.Lit TYok (h := ?_) | refine SX.Box TYok (h := ?_) | refine SC ?_ | (apply S_isnil TYok; exact rfl; exact rfl; exact rfl; exact Ev.auto; intro bn hnil) | (apply RG.gT; exact rfl; exact rfl; (first | assumption | decide)) | (apply RG.gF; exact rfl; exact rfl; (first | assumption | decide | (rw [ne_eq, Bool.not_eq_true]; assumption) | (rw [ne_eq, Bool.not_eq_false]; assumption)); exact rfl) | (refine W.condA (ht := fun hb => ?_) (hf := fun hb => ?_) <;> (try simp at hb) <;> (try (exfalso; omega))))
  all_goals first
    | exact Fin.ret ResL.auto
    | trace_state
theorem fails_ok (a1 a2 a3 : Int) (a4 : Str) (a5 : List (List Cell)) (u : Int) (p q : List Int) (x x' : Int) (hp : p.length ≤ 1000) (hq : q.length ≤ 1000) (h : ACalls Try.prog 8 [x0, .agg [.int .i64 a1, .int .i64 a2, .int .i64 a3, .str a4, .sl a5]] (.tup [cI u, .one (.sl (p.map encJ)), cI x])) : ACalls Try.prog 21 [.agg [.int .i64 a1, .int .i64 a2, .int .i64 a3, .str a4, .sl a5], slJ q, cI x'] (.pv (cB (decide (u = 0) && decide (p = q) && decide (x = x')))) := by
  have n1 := num_ok 20 2
  have n2 := ints_ok p q (by omega) (by omega)
  generalize decide (p = q) = b at *
  refine ACalls.of_W (qs := [cB (decide (u = 0) && b && decide (x = x'))]) [6] 34 Try.func21 (by kernel_rfl) rfl rfl rfl fun G => ?_
  refine W.initA (hw := ?_)
  repeat' (first | (refine W.weaken (Le.freeze1 (m := 3) rfl) ?_) | ((first | apply U_ | (apply Ug_; exact rfl; exact rfl) | (apply Ugq_; exact rfl; exact rfl)); (first | (apply Q_litD TYok; apply EvR.cons Ev.auto; (repeat (first | exact EvR.nil | apply EvR.cons Ev.auto)); exact rfl; exact rfl; exact rfl; exact rfl; exact rfl; exact rfl) | exact QX.B TYok | exact QX.Ext TYok | exact QX.Build TYok | exact QCd (n1) | exact QCd (h) | exact QCd (n2)); exact rfl) | refine SX.Alloc TYok (h := ?_) | refine SX.Store TYok (h := ?_) | refine SX.Lit TYok (h := ?_) | refine SX.Box TYok (h := ?_) | refine SC ?_ | (apply S_isnil TYok; exact rfl; exact rfl; exact rfl; exact Ev.auto; intro bn hnil) | (apply RG.gT; exact rfl; exact rfl; (first | assumption | decide)) | (apply RG.gF; exact rfl; exact rfl; (first | assumption | decide | (rw [ne_eq, Bool.not_eq_true]; assumption) | (rw [ne_eq, Bool.not_eq_false]; assumption)); exact rfl) | (refine W.condA (ht := fun hb => ?_) (hf := fun hb => ?_) <;> (try simp at hb) <;> (try (exfalso; omega))))
  all_goals first
    | exact Fin.ret ResL.auto
    | trace_state
end
end Go.Proofs.Ytppdbmobcfedcaa
end
section
set_option linter.unusedVariables false
set_option linter.unusedSimpArgs false
set_option maxHeartbeats 8000000
set_option linter.unusedSectionVars false
namespace Go.Proofs.Ytppdbmobcfedcaa
open Lf Go
attribute [local irreducible] PureOp EffOp Ev RG W Then InBlock Lf.Fin nth App InitE Pick SubE EvL EvD EvP EvR ResL Lf.Lex SubR SubBR RA RAll EvC FinO FinM ResM
section
def ArgSub : List PV → List PV → Prop
  | [], [] => True
  | p :: ps, q :: qs => PSub p q ∧ ArgSub ps qs
  | _, _ => False
theorem ArgSub.get {Φ : Frz} : ∀ {ps qs : List PV} {vs : Array Value}, ArgSub ps qs → (∀ (j : Nat) (q : PV), ps[j]? = some q → ∃ v, vs[j]? = some v ∧ PRel Φ v q) → ∀ (j : Nat) (q : PV), qs[j]? = some q → ∃ v, vs[j]? = some v ∧ PRel Φ v q := by
  intro ps qs vs h
  suffices H : ∀ (ps qs : List PV) (k : Nat), ArgSub ps qs → (∀ (j : Nat) (q : PV), ps[j]? = some q → ∃ v, vs[k + j]? = some v ∧ PRel Φ v q) → ∀ (j : Nat) (q : PV), qs[j]? = some q → ∃ v, vs[k + j]? = some v ∧ PRel Φ v q by
    intro h2 j q hq
    have := H ps qs 0 h (fun j q hq => by rw [Nat.zero_add]; exact h2 j q hq) j q hq
    rwa [Nat.zero_add] at this
  intro ps
  induction ps with
  | nil =>
    intro qs k h h2 j q hq
    cases qs with
    | nil => simp at hq
    | cons _ _ => exact h.elim
  | cons p ps ih =>
    intro qs k h h2 j q hq
    cases qs with
    | nil => exact h.elim
    | cons q0 qs =>
      cases j with
      | zero =>
        simp at hq; subst hq
        obtain ⟨v, e1, e2⟩ := h2 0 p rfl
        exact ⟨v, e1, e2.sub h.1⟩
      | succ j =>
        have := ih qs (k + 1) h.2 (fun i r hr => by
          have := h2 (i + 1) r hr
          rwa [show k + (i + 1) = k + 1 + i by omega] at this) j q hq
        rwa [show k + 1 + j = k + (j + 1) by omega] at this
theorem ArgSub.len : ∀ {ps qs : List PV}, ArgSub ps qs → ps.length = qs.length
  | [], [], _ => rfl
  | _ :: _, _ :: _, h => by rw [List.length_cons, List.length_cons, ArgSub.len h.2]
theorem argl_sub {P : Program} {f : Nat} {ps qs : List PV} {r : AV} (h : ACalls P f qs r) (hs : ArgSub ps qs) : ACalls P f ps r := ⟨h.fn, fun Φ w vs hfit harg => h.calls Φ w vs hfit ⟨by rw [harg.1, hs.len], ArgSub.get hs harg.2⟩⟩
def leafE (op n u : Int) (s : Str) : Exp := .mk op n u s []
def nodeE (op : Int) (a b : Exp) : Exp := .mk op 0 0 [] [a, b]
theorem okLeaf {op n u : Int} {s : Str} (h : s.length ≤ 9223372036854775807) : OkE (leafE op n u s) := .mk h (by simp) (fun x hx => by cases hx)
theorem okNode {op : Int} {a b : Exp} (ha : OkE a) (hB : OkE b) : OkE (nodeE op a b) := .mk (by decide) (by simp) (fun x hx => by
  rcases List.mem_cons.1 hx with rfl | hx
  · exact ha
  · rw [List.mem_singleton.1 hx]; exact hB)
theorem OT.ext' {T : OT} {a c : Int} {b : List Int} (h1 : T.u = a) (h2 : T.p = b) (h3 : T.e = c) : T = ⟨a, b, c⟩ := by
  cases T; subst h1 h2 h3; rfl
def EX1 : Exp := nodeE 6 (leafE 2 0 0 PROFIT) (leafE 1 0 0 MARGIN)
def EX2 : Exp := nodeE 4 (leafE 3 0 0 ALPHA) (leafE 1 0 0 MARGIN)
def EX3 : Exp := nodeE 10 (nodeE 7 (leafE 2 0 0 DEBT) (leafE 2 0 0 PROFIT)) (leafE 0 4 0 [])
def EX4 : Exp := nodeE 10 (leafE 2 0 0 DEBT) (leafE 0 4 0 [])
def EX5 : Exp := nodeE 4 (leafE 0 1 0 []) (nodeE 8 (leafE 1 0 0 MARGIN) (leafE 1 0 0 OTHER))
theorem oE1 : OkE EX1 := okNode (okLeaf (by decide)) (okLeaf (by decide))
theorem oE2 : OkE EX2 := okNode (okLeaf (by decide)) (okLeaf (by decide))
theorem oE3 : OkE EX3 := okNode (okNode (okLeaf (by decide)) (okLeaf (by decide))) (okLeaf (by decide))
theorem oE4 : OkE EX4 := okNode (okLeaf (by decide)) (okLeaf (by decide))
theorem oE5 : OkE EX5 := okNode (okLeaf (by decide)) (okNode (okLeaf (by decide)) (okLeaf (by decide)))
theorem tE1 : ofT lets0 EX1 = ⟨1, [], 0⟩ := OT.ext' (by decide +kernel) (by decide +kernel) (by decide +kernel)
theorem tE2 : ofT lets0 EX2 = ⟨2, [], 0⟩ := OT.ext' (by decide +kernel) (by decide +kernel) (by decide +kernel)
theorem tE3 : ofT lets0 EX3 = ⟨4, [], 0⟩ := OT.ext' (by decide +kernel) (by decide +kernel) (by decide +kernel)
theorem tE4 : ofT lets0 EX4 = ⟨0, [], 13⟩ := OT.ext' (by decide +kernel) (by decide +kernel) (by decide +kernel)
theorem tE5 : ofT lets0 EX5 = ⟨0, [1, 1], 14⟩ := OT.ext' (by decide +kernel) (by decide +kernel) (by decide +kernel)
abbrev fP : List Cell := lf 2 0 0 PROFIT
abbrev fD : List Cell := lf 2 0 0 DEBT
abbrev nM : List Cell := lf 1 0 0 MARGIN
abbrev nO : List Cell := lf 1 0 0 OTHER
abbrev rA : List Cell := lf 3 0 0 ALPHA
theorem i1 : ACalls Try.prog 19 [.agg (nd 6 fP nM), cI 1] (.pv (cB true)) := by
  have h := of0 oE1
  rw [tE1] at h
  exact is_ok 6 0 0 [] [fP, nM] 1 1 [] 0 h
theorem i2 : ACalls Try.prog 19 [.agg (nd 4 rA nM), cI 2] (.pv (cB true)) := by
  have h := of0 oE2
  rw [tE2] at h
  exact is_ok 4 0 0 [] [rA, nM] 2 2 [] 0 h
theorem i3 : ACalls Try.prog 19 [.agg (nd 10 (nd 7 fD fP) (lf 0 4 0 [])), cI 4] (.pv (cB true)) := by
  have h := of0 oE3
  rw [tE3] at h
  exact is_ok 10 0 0 [] [nd 7 fD fP, lf 0 4 0 []] 4 4 [] 0 h
theorem i4 : ACalls Try.prog 21 [.agg (nd 10 fD (lf 0 4 0 [])), .one .slnil, cI 13] (.pv (cB true)) := by
  have h := of0 oE4
  rw [tE4] at h
  have q := fails_ok 10 0 0 [] [fD, lf 0 4 0 []] 0 [] [] 13 13 (by simp) (by simp) h
  have hh : ArgSub [.agg (nd 10 fD (lf 0 4 0 [])), .one .slnil, cI 13] [.agg (nd 10 fD (lf 0 4 0 [])), slJ [], cI 13] := ⟨.refl _, .nil, .refl _, trivial⟩
  exact argl_sub q hh
theorem i5 : ACalls Try.prog 21 [.agg (nd 4 (lf 0 1 0 []) (nd 8 nM nO)), .one (.sl [[.int .i64 1], [.int .i64 1]]), cI 14] (.pv (cB true)) := by
  have h := of0 oE5
  rw [tE5] at h
  exact fails_ok 4 0 0 [] [lf 0 1 0 [], nd 8 nM nO] 0 [1, 1] [1, 1] 14 14 (by simp) (by simp) h
def ind0 : Ind := ⟨[], [], 0, 0, 0, 0, 0, 0, 0, 0, [], .mk 0 0 0 [] [], 0, [], [], 0, [], 0, 0, 0, 0⟩
theorem okInd0 : OkN ind0 := ⟨by decide, by decide, by decide, (fun y hy => by cases hy), (fun y hy => by cases hy), .mk (by decide) (by decide) (fun x hx => by cases hx), by decide, (fun y hy => by cases hy), (fun y hy => by cases hy), by decide, (fun y hy => by cases hy), by decide⟩
abbrev z0 : PV := .agg [.str [], .str [], .int .i64 0, .int .i64 0, .int .i64 0, .int .i64 0, .int .i64 0, .int .i64 0, .int .i64 0, .int .i64 0, .slnil, .int .i64 0, .int .i64 0, .int .i64 0, .str [], .slnil, .int .i64 0, .slnil, .slnil, .int .i64 0, .slnil, .int .i64 0, .int .i64 0, .int .i64 0, .int .i64 0]
theorem i6 : ACalls Try.prog 12 [z0] (.pv (cI 1)) := by
  have h := check_ok ind0 okInd0 (by decide)
  rw [show checkF ind0 = 1 by decide +kernel] at h
  exact args_sub h ⟨.refl _, .refl _, .refl _, .refl _, .refl _, .refl _, .refl _, .refl _, .refl _, .refl _, .nil, .refl _, .refl _, .refl _, .refl _, .nil, .refl _, .nil, .nil, .refl _, .nil, .refl _, .refl _, .refl _, .refl _, trivial⟩
theorem small_ok : ACalls Try.prog 6 [] (.pv (cB true)) := by
  have a1 := named_ok 1 MARGIN
  have a2 := named_ok 2 DEBT
  have a3 := named_ok 2 PROFIT
  have a4 := named_ok 3 ALPHA
  have a5 := named_ok 1 OTHER
  have n1 := num_ok 4 0
  have n2 := num_ok 1 0
  have t1 := two_ok 6 2 0 0 1 0 0 PROFIT MARGIN [] []
  have t2 := two_ok 4 3 0 0 1 0 0 ALPHA MARGIN [] []
  have t3 := two_ok 7 2 0 0 2 0 0 DEBT PROFIT [] []
  have t4 := two_ok 10 7 0 0 0 4 0 [] [] [fD, fP] []
  have t5 := two_ok 10 2 0 0 0 4 0 DEBT [] [] []
  have t6 := two_ok 8 1 0 0 1 0 0 MARGIN OTHER [] []
  have t7 := two_ok 4 0 1 0 8 0 0 [] [] [] [nM, nO]
  have j1 := i1
  have j2 := i2
  have j3 := i3
  have j4 := i4
  have j5 := i5
  have j6 := i6
  refine ACalls.of_W (qs := [cB true]) [0] 45 Try.func6 (by kernel_rfl) rfl rfl rfl fun G => ?_
  refine W.initA (hw := ?_)
  repeat' (first | (refine W.weaken (Le.freeze1 (m := 1) rfl) ?_) | (refine W.weaken (Le.freeze1 (m := 2) rfl) ?_) | ((first | apply U_ | (apply Ug_; exact rfl; exact rfl) | (apply Ugq_; exact rfl; exact rfl) | apply Lex.u | (apply Lex.g; exact rfl; exact rfl) | (apply Lex.gq; exact rfl; exact rfl)); (first | (apply Q_litD TYok; (repeat (first | exact EvR.nil | apply EvR.cons Ev.auto)); exact rfl; exact rfl; exact rfl; exact rfl; exact rfl; exact rfl) | (apply Q_litDp TYok; (intro hp; apply EvR.cons Ev.auto; (repeat (first | exact EvR.nil | apply EvR.cons Ev.auto))); exact rfl; exact rfl; exact rfl; exact rfl; exact rfl; exact rfl) | exact QX.B TYok | exact QX.Build TYok | exact QCd (a1) | exact QCd (a2) | exact QCd (a3) | exact QCd (a4) | exact QCd (a5) | exact QCd (n1) | exact QCd (n2) | exact QCd (t1) | exact QCd (t2) | exact QCd (t3) | exact QCd (t4) | exact QCd (t5) | exact QCd (t6) | exact QCd (t7) | exact QCd (j1) | exact QCd (j2) | exact QCd (j3) | exact QCd (j4) | exact QCd (j5) | exact QCd (j6)); exact rfl) | refine SX.Alloc TYok (h := ?_) | refine SX.Store TYok (h := ?_) | refine SX.Lit TYok (h := ?_) | refine SC ?_ | (apply S_isnil TYok; exact rfl; exact rfl; exact rfl; exact Ev.auto; intro bn hnil) | (apply RG.gT; exact rfl; exact rfl; (first | assumption | decide)) | (apply RG.gF; exact rfl; exact rfl; (first | assumption | decide | (rw [ne_eq, Bool.not_eq_true]; assumption) | (rw [ne_eq, Bool.not_eq_false]; assumption)); exact rfl) | (apply W.draw2 (id := 3) [0, 0, 3, 7, 15, 31, 31, 127, 255, 511, 1023, 2047, 2047, 8191, 16383, 32767, 65535, 131071, 262143] [[], [1], [6, 7], [8], [9], [10], [1, 10], [11, 12, 10], [13, 10], [10, 14], [15], [2, 16], [16], [17, 18, 16], [16], [19, 20, 16], [21, 16], [16, 22], [23]] 19 [(6, 0), (7, 2), (8, 192), (9, 256), (10, 512), (11, 1024), (12, 1026), (13, 7168), (14, 9216), (15, 17408), (16, 32768), (17, 65540), (18, 65536), (19, 458752), (20, 65536), (21, 1638400), (22, 2162688), (23, 4259840), (3, 8388608)] mixed (by kernel_rfl) rfl rfl) | (apply W.draw2 (id := 4) [0, 1, 3, 3, 15, 31, 63, 127, 255, 255, 511, 2047, 4095, 255, 16383, 32767, 65535, 131071, 262143, 524287, 1048575, 2097151] [[3], [24], [2, 25], [25], [26, 27, 25], [28, 25], [25, 29], [30], [31], [1, 31], [31], [33, 34, 31], [32, 35, 31], [31], [36, 37, 31], [31, 38], [39], [40], [41, 40], [42, 40], [40, 43], [44]] 22 [(24, 8), (25, 16777216), (26, 33554436), (27, 33554432), (28, 234881024), (29, 301989888), (30, 570425344), (31, 1073741824), (32, 2147483648), (33, 2147483650), (34, 2147483648), (35, 27917287424), (36, 40802189312), (37, 2147483648), (38, 208305913856), (39, 277025390592), (40, 549755813888), (41, 1099511627776), (42, 3298534883328), (43, 5497558138880), (44, 9895604649984), (0, 17592186044416)] mixed (by kernel_rfl) rfl rfl) | (refine W.condA (ht := fun hb => ?_) (hf := fun hb => ?_) <;> (try simp at hb) <;> (try (exfalso; omega))))
  all_goals first
    | exact Fin.ret ResL.auto
    | trace_state
end
end Go.Proofs.Ytppdbmobcfedcaa
end
section
set_option linter.unusedVariables false
set_option linter.unusedSimpArgs false
set_option maxHeartbeats 8000000
set_option linter.unusedSectionVars false
namespace Go.Proofs.Ytppdbmobcfedcaa
open Lf Go
attribute [local irreducible] PureOp EffOp Ev RG W Then InBlock Lf.Fin nth App InitE Pick SubE EvL EvD EvP EvR ResL Lf.Lex SubR SubBR RA RAll EvC FinO FinM ResM
section
theorem all_noU {α : Type} [Inhabited α] {l : List α} {p : α → Bool} {j : Nat} (hj : j < l.length) (h : p (nth l j) = false) : l.all p = false := by
  cases hc : l.all p with
  | false => rfl
  | true => have := List.all_eq_true.1 hc _ (nth_mem hj); rw [h] at this; cases this
theorem all_yesU {α : Type} [Inhabited α] {l : List α} {p : α → Bool} (h : ∀ j, j < l.length → p (nth l j) = true) : l.all p = true := List.all_eq_true.2 fun y hy => by
  obtain ⟨j, hj, rfl⟩ := List.getElem_of_mem hy
  rw [← nth_eq hj]; exact h j hj
def fewL (y : Let) : Bool := decide ((y.name.length : Int) ≤ 40) && fewX y.body
def fewV (y : Cov) : Bool := decide ((y.name.length : Int) ≤ 40) && fewX y.must
def fewS (s : Str) : Bool := decide ((s.length : Int) ≤ 40)
def fewH (x : Ind) : Bool := decide ((x.lets.length : Int) ≤ 22) && decide ((x.covs.length : Int) ≤ 22) && decide ((x.calls.length : Int) ≤ 22) && decide ((x.favour.length : Int) ≤ 22) && decide ((x.name.length : Int) ≤ 40) && decide ((x.issuer.length : Int) ≤ 40) && fewX x.coupon
def fewN (x : Ind) : Bool := fewH x && x.lets.all fewL && x.covs.all fewV && x.favour.all fewS
theorem fewH_iff (x : Ind) : fewH x = true ↔ (x.lets.length : Int) ≤ 22 ∧ (x.covs.length : Int) ≤ 22 ∧ (x.calls.length : Int) ≤ 22 ∧ (x.favour.length : Int) ≤ 22 ∧ (x.name.length : Int) ≤ 40 ∧ (x.issuer.length : Int) ≤ 40 ∧ fewX x.coupon = true := by
  simp only [fewH, Bool.and_eq_true, decide_eq_true_iff, and_assoc]
theorem fewN_ok (x : Ind) (hx : OkN x) : ACalls Try.prog 11 [aN x] (.pv (cB (fewN x))) := by
  have q := fewX_ok x.coupon hx.coupon
  cases hh : fewH x with
  | false =>
    have hn : ¬ ((x.lets.length : Int) ≤ 22 ∧ (x.covs.length : Int) ≤ 22 ∧ (x.calls.length : Int) ≤ 22 ∧ (x.favour.length : Int) ≤ 22 ∧ (x.name.length : Int) ≤ 40 ∧ (x.issuer.length : Int) ≤ 40 ∧ fewX x.coupon = true) := fun c => by rw [(fewH_iff x).2 c] at hh; cases hh
    rw [fewN, hh, Bool.false_and, Bool.false_and, Bool.false_and]
    refine ACalls.of_W (qs := [cB false]) [2] 110 Try.func11 (by kernel_rfl) rfl rfl rfl fun G => ?_
    refine W.initA (hw := ?_)
    repeat' (first | ((first | apply U_ | (apply Ug_; exact rfl; exact rfl) | (apply Ugq_; exact rfl; exact rfl)); (first | exact QX.B TYok | exact QX.Len TYok | exact QX.Idx TYok | exact QCd (q)); exact rfl) | refine SX.Box TYok (h := ?_) | refine SC ?_ | (apply RG.gT; exact rfl; exact rfl; (first | assumption | decide)) | (apply RG.gF; exact rfl; exact rfl; (first | assumption | decide | (rw [ne_eq, Bool.not_eq_true]; assumption) | (rw [ne_eq, Bool.not_eq_false]; assumption)); exact rfl) | (refine W.condA (ht := fun hb => ?_) (hf := fun hb => ?_) <;> (try simp at hb) <;> (try (exfalso; omega))))
    all_goals first
      | exact Fin.ret ResL.auto
      | (exfalso; apply hn; obtain ⟨⟨⟨⟨⟨⟨v1, v2⟩, v3⟩, v4⟩, v5⟩, v6⟩, v7⟩ := hb; exact ⟨v1, v2, v4, v3, v5, v6, v7⟩)
  | true =>
    have hp := (fewH_iff x).1 hh
    have e1 : fewN x = (x.lets.all fewL && x.covs.all fewV && x.favour.all fewS) := by rw [fewN, hh, Bool.true_and]
    refine ACalls.of_W (qs := [cB (fewN x)]) [2] 110 Try.func11 (by kernel_rfl) rfl rfl rfl fun G => ?_
    refine W.initA (hw := ?_)
    repeat' (first | ((first | apply U_ | (apply Ug_; exact rfl; exact rfl) | (apply Ugq_; exact rfl; exact rfl)); (first | exact QX.B TYok | exact QX.Len TYok | exact QX.Idx TYok | exact QCd (q)); exact rfl) | refine SX.Box TYok (h := ?_) | refine SC ?_ | (apply RG.gT; exact rfl; exact rfl; (first | assumption | decide)) | (apply RG.gF; exact rfl; exact rfl; (first | assumption | decide | (rw [ne_eq, Bool.not_eq_true]; assumption) | (rw [ne_eq, Bool.not_eq_false]; assumption)); exact rfl) | (refine W.condA (ht := fun hb => ?_) (hf := fun hb => ?_) <;> (try simp at hb) <;> (try (exfalso; omega))))
    all_goals first
      | (exfalso; obtain ⟨v1, v2, v3, v4, v5, v6, v7⟩ := hp; rw [v7] at hb; simp at hb; omega)
      | skip
    apply W.loopP (σ := Nat) 110 [1] (fun k => k ≤ x.lets.length ∧ (∀ j, j < k → fewL (nth x.lets j) = true)) (fun k => [(3, vI k)]) (fun k => [(1, ⟨30, 25, [encN x]⟩)]) (fun k => x.lets.length - k) (0)
    case hp => repeat (first | exact Pick.nil | apply Pick.cons rfl)
    case h0 =>
      refine ⟨⟨by simp, fun j hj => absurd hj (by omega)⟩, ?_⟩
      exact Le.auto
    case round =>
      rintro k ⟨k1, k2⟩
      apply W.norm (by repeat (first | exact App.nil | apply App.cons))
      by_cases hk : k < x.lets.length
      · have q2 := fewX_ok (nth x.lets k).body (hx.lete _ (nth_mem hk))
        cases hc : fewL (nth x.lets k) with
        | false =>
          have hd := hc
          simp only [fewL, Bool.and_eq_false_iff, decide_eq_false_iff_not] at hd
          rw [e1, all_noU hk hc, Bool.false_and, Bool.false_and]
          repeat' (first | ((first | apply U_ | (apply Ug_; exact rfl; exact rfl) | (apply Ugq_; exact rfl; exact rfl)); (first | exact QX.B TYok | exact QX.Len TYok | exact QX.Idx TYok | exact QCd (q2)); exact rfl) | refine SX.Box TYok (h := ?_) | refine SC ?_ | (apply RG.gT; exact rfl; exact rfl; (first | assumption | decide)) | (apply RG.gF; exact rfl; exact rfl; (first | assumption | decide | (rw [ne_eq, Bool.not_eq_true]; assumption) | (rw [ne_eq, Bool.not_eq_false]; assumption)); exact rfl) | (refine W.condA (ht := fun hb => ?_) (hf := fun hb => ?_) <;> (try simp at hb) <;> (try (exfalso; omega))))
          all_goals first
            | exact Fin.ret ResL.auto
            | (exfalso; rcases hd with h | h
               · omega
               · rw [h] at hb; exact absurd hb.2 (by decide))
        | true =>
          have hd := hc
          simp only [fewL, Bool.and_eq_true, decide_eq_true_iff] at hd
          repeat' (first | ((first | apply U_ | (apply Ug_; exact rfl; exact rfl) | (apply Ugq_; exact rfl; exact rfl)); (first | exact QX.B TYok | exact QX.Len TYok | exact QX.Idx TYok | exact QCd (q2)); exact rfl) | refine SX.Box TYok (h := ?_) | refine SC ?_ | (apply RG.gT; exact rfl; exact rfl; (first | assumption | decide)) | (apply RG.gF; exact rfl; exact rfl; (first | assumption | decide | (rw [ne_eq, Bool.not_eq_true]; assumption) | (rw [ne_eq, Bool.not_eq_false]; assumption)); exact rfl) | (refine W.condA (ht := fun hb => ?_) (hf := fun hb => ?_) <;> (try simp at hb) <;> (try (exfalso; omega))))
          all_goals first
            | (exfalso; rw [hd.2] at hb; simp at hb; omega)
            | (refine ⟨k + 1, ⟨by omega, upto_succ (q := fun j => fewL (nth x.lets j)) k2 hc⟩, ?_, by (try simp only); omega⟩; exact Le.auto)
            | trace_state
      · obtain rfl : k = x.lets.length := by omega
        have l1 := all_yesU k2
        repeat' (first | ((first | apply U_ | (apply Ug_; exact rfl; exact rfl) | (apply Ugq_; exact rfl; exact rfl)); (first | exact QX.B TYok | exact QX.Len TYok | exact QX.Idx TYok); exact rfl) | refine SX.Box TYok (h := ?_) | refine SC ?_ | (apply RG.gT; exact rfl; exact rfl; (first | assumption | decide)) | (apply RG.gF; exact rfl; exact rfl; (first | assumption | decide | (rw [ne_eq, Bool.not_eq_true]; assumption) | (rw [ne_eq, Bool.not_eq_false]; assumption)); exact rfl) | (refine W.condA (ht := fun hb => ?_) (hf := fun hb => ?_) <;> (try simp at hb) <;> (try (exfalso; omega))))
        apply W.loopP (σ := Nat) 110 [1] (fun k => k ≤ x.covs.length ∧ (∀ j, j < k → fewV (nth x.covs j) = true)) (fun k => [(4, vI k)]) (fun k => [(1, ⟨30, 25, [encN x]⟩)]) (fun k => x.covs.length - k) (0)
        case hp => repeat (first | exact Pick.nil | apply Pick.cons rfl)
        case h0 =>
          refine ⟨⟨by simp, fun j hj => absurd hj (by omega)⟩, ?_⟩
          exact Le.auto
        case round =>
          rintro k ⟨k1, k2⟩
          apply W.norm (by repeat (first | exact App.nil | apply App.cons))
          by_cases hk : k < x.covs.length
          · have q2 := fewX_ok (nth x.covs k).must (hx.cove _ (nth_mem hk))
            cases hc : fewV (nth x.covs k) with
            | false =>
              have hd := hc
              simp only [fewV, Bool.and_eq_false_iff, decide_eq_false_iff_not] at hd
              rw [e1, all_noU hk hc, Bool.and_false, Bool.false_and]
              repeat' (first | ((first | apply U_ | (apply Ug_; exact rfl; exact rfl) | (apply Ugq_; exact rfl; exact rfl)); (first | exact QX.B TYok | exact QX.Len TYok | exact QX.Idx TYok | exact QCd (q2)); exact rfl) | refine SX.Box TYok (h := ?_) | refine SC ?_ | (apply RG.gT; exact rfl; exact rfl; (first | assumption | decide)) | (apply RG.gF; exact rfl; exact rfl; (first | assumption | decide | (rw [ne_eq, Bool.not_eq_true]; assumption) | (rw [ne_eq, Bool.not_eq_false]; assumption)); exact rfl) | (refine W.condA (ht := fun hb => ?_) (hf := fun hb => ?_) <;> (try simp at hb) <;> (try (exfalso; omega))))
              all_goals first
                | exact Fin.ret ResL.auto
                | (exfalso; rcases hd with h | h
                   · omega
                   · rw [h] at hb; exact absurd hb.2 (by decide))
            | true =>
              have hd := hc
              simp only [fewV, Bool.and_eq_true, decide_eq_true_iff] at hd
              repeat' (first | ((first | apply U_ | (apply Ug_; exact rfl; exact rfl) | (apply Ugq_; exact rfl; exact rfl)); (first | exact QX.B TYok | exact QX.Len TYok | exact QX.Idx TYok | exact QCd (q2)); exact rfl) | refine SX.Box TYok (h := ?_) | refine SC ?_ | (apply RG.gT; exact rfl; exact rfl; (first | assumption | decide)) | (apply RG.gF; exact rfl; exact rfl; (first | assumption | decide | (rw [ne_eq, Bool.not_eq_true]; assumption) | (rw [ne_eq, Bool.not_eq_false]; assumption)); exact rfl) | (refine W.condA (ht := fun hb => ?_) (hf := fun hb => ?_) <;> (try simp at hb) <;> (try (exfalso; omega))))
              all_goals first
                | (exfalso; rw [hd.2] at hb; simp at hb; omega)
                | (refine ⟨k + 1, ⟨by omega, upto_succ (q := fun j => fewV (nth x.covs j)) k2 hc⟩, ?_, by (try simp only); omega⟩; exact Le.auto)
                | trace_state
          · obtain rfl : k = x.covs.length := by omega
            have l2 := all_yesU k2
            repeat' (first | ((first | apply U_ | (apply Ug_; exact rfl; exact rfl) | (apply Ugq_; exact rfl; exact rfl)); (first | exact QX.B TYok | exact QX.Len TYok | exact QX.Idx TYok); exact rfl) | refine SX.Box TYok (h := ?_) | refine SC ?_ | (apply RG.gT; exact rfl; exact rfl; (first | assumption | decide)) | (apply RG.gF; exact rfl; exact rfl; (first | assumption | decide | (rw [ne_eq, Bool.not_eq_true]; assumption) | (rw [ne_eq, Bool.not_eq_false]; assumption)); exact rfl) | (refine W.condA (ht := fun hb => ?_) (hf := fun hb => ?_) <;> (try simp at hb) <;> (try (exfalso; omega))))
            apply W.loopP (σ := Nat) 110 [1] (fun k => k ≤ x.favour.length ∧ (∀ j, j < k → fewS (nth x.favour j) = true)) (fun k => [(5, vI k)]) (fun k => [(1, ⟨30, 25, [encN x]⟩)]) (fun k => x.favour.length - k) (0)
            case hp => repeat (first | exact Pick.nil | apply Pick.cons rfl)
            case h0 =>
              refine ⟨⟨by simp, fun j hj => absurd hj (by omega)⟩, ?_⟩
              exact Le.auto
            case round =>
              rintro k ⟨k1, k2⟩
              apply W.norm (by repeat (first | exact App.nil | apply App.cons))
              by_cases hk : k < x.favour.length
              · cases hc : fewS (nth x.favour k) with
                | false =>
                  have hd := hc
                  simp only [fewS, decide_eq_false_iff_not] at hd
                  rw [e1, all_noU hk hc, Bool.and_false]
                  repeat' (first | ((first | apply U_ | (apply Ug_; exact rfl; exact rfl) | (apply Ugq_; exact rfl; exact rfl)); (first | exact QX.B TYok | exact QX.Len TYok | exact QX.Idx TYok); exact rfl) | refine SX.Box TYok (h := ?_) | refine SC ?_ | (apply RG.gT; exact rfl; exact rfl; (first | assumption | decide)) | (apply RG.gF; exact rfl; exact rfl; (first | assumption | decide | (rw [ne_eq, Bool.not_eq_true]; assumption) | (rw [ne_eq, Bool.not_eq_false]; assumption)); exact rfl) | (refine W.condA (ht := fun hb => ?_) (hf := fun hb => ?_) <;> (try simp at hb) <;> (try (exfalso; omega))))
                  exact Fin.ret ResL.auto
                | true =>
                  have hd := hc
                  simp only [fewS, decide_eq_true_iff] at hd
                  repeat' (first | ((first | apply U_ | (apply Ug_; exact rfl; exact rfl) | (apply Ugq_; exact rfl; exact rfl)); (first | exact QX.B TYok | exact QX.Len TYok | exact QX.Idx TYok); exact rfl) | refine SX.Box TYok (h := ?_) | refine SC ?_ | (apply RG.gT; exact rfl; exact rfl; (first | assumption | decide)) | (apply RG.gF; exact rfl; exact rfl; (first | assumption | decide | (rw [ne_eq, Bool.not_eq_true]; assumption) | (rw [ne_eq, Bool.not_eq_false]; assumption)); exact rfl) | (refine W.condA (ht := fun hb => ?_) (hf := fun hb => ?_) <;> (try simp at hb) <;> (try (exfalso; omega))))
                  refine ⟨k + 1, ⟨by omega, upto_succ (q := fun j => fewS (nth x.favour j)) k2 hc⟩, ?_, ?_⟩
                  · exact Le.auto
                  · (try simp only); omega
              · obtain rfl : k = x.favour.length := by omega
                have l3 := all_yesU k2
                rw [e1, l1, l2, l3]
                repeat' (first | ((first | apply U_ | (apply Ug_; exact rfl; exact rfl) | (apply Ugq_; exact rfl; exact rfl)); (first | exact QX.B TYok | exact QX.Len TYok | exact QX.Idx TYok); exact rfl) | refine SX.Box TYok (h := ?_) | refine SC ?_ | (apply RG.gT; exact rfl; exact rfl; (first | assumption | decide)) | (apply RG.gF; exact rfl; exact rfl; (first | assumption | decide | (rw [ne_eq, Bool.not_eq_true]; assumption) | (rw [ne_eq, Bool.not_eq_false]; assumption)); exact rfl) | (refine W.condA (ht := fun hb => ?_) (hf := fun hb => ?_) <;> (try simp at hb) <;> (try (exfalso; omega))))
                exact Fin.ret ResL.auto
theorem few_sm {x : Ind} (h : fewN x = true) : x.lets.length ≤ 22 ∧ x.covs.length ≤ 22 := by
  unfold fewN at h
  simp only [Bool.and_eq_true] at h
  have := (fewH_iff x).1 h.1.1.1
  omega
end
end Go.Proofs.Ytppdbmobcfedcaa
end
section
set_option linter.unusedVariables false
set_option linter.unusedSimpArgs false
set_option maxHeartbeats 8000000
set_option linter.unusedSectionVars false
namespace Go.Proofs.Ytppdbmobcfedcaa
open Lf Go
attribute [local irreducible] PureOp EffOp Ev RG W Then InBlock Lf.Fin nth App InitE Pick SubE EvL EvD EvP EvR ResL Lf.Lex SubR SubBR RA RAll EvC FinO FinM ResM
section
theorem uniq_iff (l : List Str) (most : Int) : uniqF l most = true ↔ (∀ s ∈ l, nameF s = true) ∧ l.Nodup ∧ (l.length : Int) ≤ most := by
  unfold uniqF
  simp only [Bool.and_eq_true, decide_eq_true_iff, List.all_eq_true, List.mem_range]
  constructor
  · rintro ⟨h, h2⟩
    have g : ∀ j, j < l.length → nameF (nth l j) = true ∧ nth l j ∉ l.take j := fun j hj => by
      have := h j hj
      unfold okU at this
      simpa using this
    refine ⟨fun s hs => ?_, ?_, h2⟩
    · obtain ⟨j, hj, rfl⟩ := List.getElem_of_mem hs
      rw [← nth_eq hj]
      exact (g j hj).1
    · rw [List.nodup_iff_pairwise_ne, List.pairwise_iff_getElem]
      intro i j hi hj hij e
      refine (g j hj).2 ?_
      rw [nth_eq hj, ← e]
      exact List.mem_take_iff_getElem.2 ⟨i, by omega, rfl⟩
  · rintro ⟨h1, h2, h3⟩
    refine ⟨fun j hj => ?_, h3⟩
    unfold okU
    rw [h1 _ (nth_mem hj), Bool.true_and, Bool.not_eq_true', decide_eq_false_iff_not]
    intro hm
    obtain ⟨i, hi, e⟩ := List.mem_take_iff_getElem.1 hm
    rw [List.nodup_iff_pairwise_ne, List.pairwise_iff_getElem] at h2
    rw [nth_eq hj] at e
    exact h2 i j (by omega) hj (by omega) e
structure ChkY (x : Ind) : Prop where
  hr : rightN x = true
  lt : ∀ k, k < x.lets.length → tempF (nth x.lets k).body = false ∧ (ofT (x.lets.take k) (nth x.lets k).body).e = 0
  cp : tempF x.coupon = false ∧ (ofT x.lets x.coupon).e = 0 ∧ (ofT x.lets x.coupon).u = 2
  cv : ∀ k, k < x.covs.length → (ofT x.lets (nth x.covs k).must).e = 0 ∧ (ofT x.lets (nth x.covs k).must).u = 4
theorem chk_iff (x : Ind) : checkF x = 0 ↔ ChkY x := by
  constructor
  · intro h
    unfold checkF at h
    by_cases hr : rightN x = false
    · rw [if_pos hr] at h; cases h
    rw [if_neg hr] at h
    by_cases h1 : firstE (letE x.lets) x.lets.length = 0
    case neg => rw [if_pos h1] at h; exact absurd h h1
    rw [if_neg (by omega)] at h
    by_cases h2 : cupE x.lets x.coupon = 0
    case neg => rw [if_pos h2] at h; exact absurd h h2
    rw [if_neg (by omega)] at h
    refine ⟨by simpa using hr, fun k hk => ?_, ?_, fun k hk => ?_⟩
    · have := firstE_all h1 k hk
      unfold letE at this
      split at this
      · cases this
      · rename_i q; exact ⟨by simpa using q, this⟩
    · unfold cupE at h2
      split at h2
      · cases h2
      · rename_i q
        split at h2
        · rename_i q2; exact absurd h2 q2
        · rename_i q2
          split at h2
          · cases h2
          · rename_i q3; exact ⟨by simpa using q, by omega, by omega⟩
    · have := firstE_all h k hk
      unfold covE at this
      split at this
      · rename_i q2; exact absurd this q2
      · rename_i q2
        split at this
        · cases this
        · rename_i q3; exact ⟨by omega, by omega⟩
  · rintro ⟨hr, h1, h2, h3⟩
    unfold checkF
    have e1 : firstE (letE x.lets) x.lets.length = 0 := firstE_zero fun k hk => by
      unfold letE
      rw [if_neg (by rw [(h1 k hk).1]; decide)]; exact (h1 k hk).2
    have e2 : cupE x.lets x.coupon = 0 := by
      unfold cupE
      rw [if_neg (by rw [h2.1]; decide), if_neg (by omega), if_neg (by omega)]
    have e3 : firstE (covE x.lets x.covs) x.covs.length = 0 := firstE_zero fun k hk => by
      have := h3 k hk
      unfold covE
      rw [if_neg (by omega), if_neg (by omega)]
    rw [if_neg (by rw [hr]; decide), if_neg (by omega), if_neg (by omega), e3]
def without (x : Ind) (k : Nat) : Ind := { x with covs := x.covs.take k ++ x.covs.drop (k + 1) }
def withCup (x : Ind) (e : Exp) : Ind := { x with coupon := e }
theorem sub_covs {α : Type} (l : List α) (k : Nat) : (l.take k ++ l.drop (k + 1)).Sublist l := by
  rw [← List.eraseIdx_eq_take_drop_succ]
  exact List.eraseIdx_sublist ..
theorem any_sub {α : Type} {l m : List α} {p : α → Bool} (h : m.Sublist l) (hf : l.any p = false) : m.any p = false := by
  rw [List.any_eq_false] at hf ⊢
  exact fun y hy => hf y (h.subset hy)
theorem right_parts {x : Ind} (h : rightN x = true) : hdR x = true ∧ uniqF (x.lets.map Let.name) 20 = true ∧ uniqF (x.covs.map Cov.name) 20 = true ∧ rightF 12 x.coupon = true ∧ x.lets.any badL = false ∧ x.covs.any badV = false ∧ x.calls.any badC = false := by
  unfold rightN midR at h
  simp only [Bool.and_eq_true, Bool.not_eq_true', Bool.or_eq_false_iff] at h
  obtain ⟨⟨h1, ⟨h2, h3⟩, h4⟩, ⟨h5, h6⟩, h7⟩ := h
  exact ⟨h1, h2, h3, h4, h5, h6, h7⟩
theorem right_of {x : Ind} (h1 : hdR x = true) (h2 : uniqF (x.lets.map Let.name) 20 = true) (h3 : uniqF (x.covs.map Cov.name) 20 = true) (h4 : rightF 12 x.coupon = true) (h5 : x.lets.any badL = false) (h6 : x.covs.any badV = false) (h7 : x.calls.any badC = false) : rightN x = true := by
  unfold rightN midR
  rw [h1, h2, h3, h4, h5, h6, h7]; rfl
theorem lets_right {x : Ind} (h : rightN x = true) : x.lets.length ≤ 20 ∧ ∀ y ∈ x.lets, rightF 12 y.body = true := by
  obtain ⟨_, h2, _, _, h5, _, _⟩ := right_parts h
  have := ((uniq_iff _ _).1 h2).2.2
  rw [List.length_map] at this
  refine ⟨by omega, fun y hy => ?_⟩
  have := List.any_eq_false.1 h5 y hy
  unfold badL at this
  simpa using this
theorem chk_without {x : Ind} (h : ChkY x) (k : Nat) : ChkY (without x k) := by
  obtain ⟨h1, h2, h3, h4, h5, h6, h7⟩ := right_parts h.hr
  have hs := sub_covs x.covs k
  refine ⟨right_of h1 h2 ?_ h4 h5 (any_sub hs h6) h7, h.lt, h.cp, fun j hj => ?_⟩
  · obtain ⟨u1, u2, u3⟩ := (uniq_iff _ _).1 h3
    have hm := hs.map Cov.name
    refine (uniq_iff _ _).2 ⟨fun s q => u1 s (hm.subset q), u2.sublist hm, ?_⟩
    have := hm.length_le
    show (((x.covs.take k ++ x.covs.drop (k + 1)).map Cov.name).length : Int) ≤ 20
    omega
  · have hm : nth (without x k).covs j ∈ x.covs := hs.subset (nth_mem hj)
    obtain ⟨i, hi, e⟩ := List.getElem_of_mem hm
    have := h.cv i hi
    rw [nth_eq hi, e] at this
    exact this
def NUM0 : Exp := .mk 0 0 2 [] []
def DAYS : Exp := .mk 15 0 0 [] [.mk 16 1 0 [] [.mk 0 1 4 [] []], .mk 0 0 2 [] [], .mk 0 0 2 [] []]
theorem right_cup {x : Ind} (h : rightN x = true) {e : Exp} (he : rightF 12 e = true) : rightN (withCup x e) = true := by
  obtain ⟨h1, h2, h3, h4, h5, h6, h7⟩ := right_parts h
  exact right_of h1 h2 h3 he h5 h6 h7
theorem rNUM0 : rightF 12 NUM0 = true := by decide +kernel
theorem rDAYS : rightF 12 DAYS = true := by decide +kernel
theorem tNUM0 : tempF NUM0 = false := by decide +kernel
theorem tDAYS : tempF DAYS = true := by decide +kernel
theorem of_num0 {lets : List Let} (h20 : lets.length ≤ 20) (hr : ∀ y ∈ lets, rightF 12 y.body = true) : ofT lets NUM0 = ⟨2, [], 0⟩ := by
  unfold ofT
  rw [if_pos (ofC_of h20 rNUM0 hr)]
  unfold NUM0
  rw [ofU]
  unfold nodeU
  rw [if_pos rfl]; rfl
theorem chk_num {x : Ind} (h : ChkY x) : ChkY (withCup x NUM0) := by
  obtain ⟨h20, hr⟩ := lets_right h.hr
  refine ⟨right_cup h.hr rNUM0, h.lt, ?_, h.cv⟩
  show tempF NUM0 = false ∧ (ofT x.lets NUM0).e = 0 ∧ (ofT x.lets NUM0).u = 2
  rw [of_num0 h20 hr]
  exact ⟨tNUM0, rfl, rfl⟩
theorem chk_days {x : Ind} (h : ChkY x) : checkF (withCup x DAYS) = 14 := by
  refine chk_cup (right_cup h.hr rDAYS) (firstE_zero fun k hk => ?_) ?_ (by decide)
  · unfold letE
    have := h.lt k hk
    rw [if_neg]
    · exact this.2
    · show ¬ tempF (nth x.lets k).body = true
      rw [this.1]; decide
  · show (if tempF DAYS = true then 14 else _) = 14
    rw [if_pos tDAYS]
end
end Go.Proofs.Ytppdbmobcfedcaa
end
