/-
  The examples
-/
import Derived.Test.YtionjeodcmnneaaBi
import Derived.Test.YtionjeodcmnneaaLfDrawE
set_option linter.unusedVariables false
set_option linter.unusedSimpArgs false
set_option maxHeartbeats 8000000
namespace Go.Proofs.Ytionjeodcmnneaa
open Lf Go
attribute [local irreducible] PureOp EffOp Ev RG W Then InBlock Lf.Fin nth App InitE Pick SubE SubF SubG EvL EvD EvP EvR ResL Lf.Lex SubR SubBR RA RAll EvC FinO FinM ResM FinB ResD

/-! ### the examples -/
def TOWN : Str := [116, 111, 119, 110]
def termsI (s : Str) : Ind := ⟨s, TOWN, 100, 0, 900, 6, 0, 0, 0, 0, [], .mk 0 40 2 [] [], 90, [], [], -1, [], 0, 0, 660, 250⟩
def termsR (s : Str) : List Cell := [.str s, .str TOWN, .int .i64 100, .int .i64 0, .int .i64 900, .int .i64 6, .int .i64 0, .int .i64 0, .int .i64 0, .int .i64 0, .slnil, .int .i64 0, .int .i64 40, .int .i64 2, .str [], .slnil, .int .i64 90, .slnil, .slnil, .int .i64 (-1), .slnil, .int .i64 0, .int .i64 0, .int .i64 660, .int .i64 250]
def termsQ (s : Str) : List (Nat × PV) := [(0, cS s), (1, cS TOWN), (2, cI 100), (4, cI 900), (5, cI 6), (11, .agg [.int .i64 0, .int .i64 40, .int .i64 2, .str [], .slnil]), (12, cI 90), (15, cI (-1)), (19, cI 660), (20, cI 250)]
theorem terms_ok (s : Str) : ACalls Try.prog 22 [cS s] (.pv (aN (termsI s))) := by
  refine ACalls.of_M TYok (qs := [aN (termsI s)]) [.cell 2 40] 6 Try.func22 (by kernel_rfl) rfl rfl rfl fun G => ?_
  refine W.initA (hw := ?_)
  repeat' (first
    | apply RG.nil
    | apply Lex.nil
    | apply Then.n
    | apply Then.r
    | apply Then.x
    | apply InBlock.n
    | apply InBlock.r
    | apply InBlock.hit
    | (apply InBlock.miss; exact rfl)
    | apply W.seq
    | apply W.region
    | apply W.block
    | apply W.skip
    | apply W.ret
    | apply W.exit
    | ((first | apply U_); (first
    | (apply Q_build TYok (res := termsR s) (qs := termsQ s); (unfold termsQ; repeat (first | exact EvP.nil | apply EvP.cons Ev.auto)); exact rfl; exact rfl; exact rfl; kernel_rfl)
    | exact QX.Move TYok
    | exact QX.Build TYok); exact rfl)
    | refine SX.Alloc TYok (h := ?_)
    | refine SX.Store TYok (h := ?_)
    | (refine W.condA (ht := fun hb => ?_) (hf := fun hb => ?_) <;> (try simp at hb) <;> (try (exfalso; omega))))
  refine FinM.ret (ResM.cell rfl rfl rfl rfl ?_ ResM.nil)
  show LSub [_, _, _, _, _, _, _, _, _, _, _, _, _, _, _, _, _, _, _, _, _, _, _, _, _] [_, _, _, _, _, _, _, _, _, _, _, _, _, _, _, _, _, _, _, _, _, _, _, _, _]
  exact ⟨.refl _, .refl _, .refl _, .refl _, .refl _, .refl _, .refl _, .refl _, .refl _, .refl _, .nil, .refl _, .refl _, .refl _, .refl _, .nil, .refl _, .nil, .nil, .refl _, .nil, .refl _, .refl _, .refl _, .refl _, trivial⟩
def rk1 (x : Ind) : Ind := { x with rank := 1 }
def nt30 (x : Ind) : Ind := { x with notice := 30 }
theorem okTerms (s : Str) (hs : s.length ≤ 40) : OkN (termsI s) ∧ OkN (rk1 (termsI s)) ∧ OkN (nt30 (termsI s)) := by
  refine ⟨?_, ?_, ?_⟩
  all_goals
    refine ⟨?_, ?_, ?_, ?_, ?_, ?_, ?_, ?_, ?_, ?_, ?_, ?_⟩
    · show s.length ≤ _; omega
    · show TOWN.length ≤ _; decide
    · show 0 ≤ _; omega
    · intro y hy; cases hy
    · intro y hy; cases hy
    · exact .mk (by decide) (by decide) (fun x hx => by cases hx)
    · show 0 ≤ _; omega
    · intro y hy; cases hy
    · intro y hy; cases hy
    · show 0 ≤ _; omega
    · intro y hy; cases hy
    · show 0 ≤ _; omega
def IA : Ind := termsI [97]
def IB : Ind := termsI [98]
theorem argsOf {a b c d : Ind} (ha : OkN a) (hb : OkN b) (hc : OkN c) (hd : OkN d) (sa : a.lets.length ≤ 1000 ∧ a.covs.length ≤ 1000) (sb : b.lets.length ≤ 1000 ∧ b.covs.length ≤ 1000) (sc : c.lets.length ≤ 1000 ∧ c.covs.length ≤ 1000) (sd : d.lets.length ≤ 1000 ∧ d.covs.length ≤ 1000) : Args [a, b] [c, d] where
  ok := by intro x hx; simp at hx; rcases hx with rfl | rfl <;> assumption
  ok' := by intro x hx; simp at hx; rcases hx with rfl | rfl <;> assumption
  sm := by intro x hx; simp at hx; rcases hx with rfl | rfl <;> assumption
  sm' := by intro x hx; simp at hx; rcases hx with rfl | rfl <;> assumption
  len := by simp
  len' := by simp
theorem sm1 : bindsF [IA, IB] [rk1 IA, IB] [66, 0] [100, 100] = ([true, false], 0) := by decide +kernel
theorem sm2 : bindsF [IA, IB] [rk1 IA, rk1 IB] [66, 65] [100, 100] = ([false, false], 0) := by decide +kernel
theorem sm3 : bindsF [IA, IB] [nt30 IA, rk1 IB] [51, 66] [100, 100] = ([true, true], 0) := by decide +kernel
theorem sm4 : needF IA (rk1 IA) = 660 := by decide +kernel
theorem sm5 : gotF IA (rk1 IA) 66 100 = true := by decide +kernel
set_option maxRecDepth 20000 in
theorem small_ok : ACalls Try.prog 8 [] (.pv (cB true)) := by
  obtain ⟨a1, a2, a3⟩ := okTerms [97] (by decide)
  obtain ⟨b1, b2, b3⟩ := okTerms [98] (by decide)
  have ta := terms_ok [97]
  have tb := terms_ok [98]
  have z : (0 : Nat) ≤ 1000 ∧ (0 : Nat) ≤ 1000 := by omega
  have c1 := binds_ok [IA, IB] [rk1 IA, IB] [66, 0] [100, 100] (argsOf a1 b1 a2 b1 z z z z)
  have c2 := binds_ok [IA, IB] [rk1 IA, rk1 IB] [66, 65] [100, 100] (argsOf a1 b1 a2 b2 z z z z)
  have c3 := binds_ok [IA, IB] [nt30 IA, rk1 IB] [51, 66] [100, 100] (argsOf a1 b1 a3 b2 z z z z)
  have c4 := needed_ok IA (rk1 IA) a1 a2
  have c5 := got_ok IA (rk1 IA) 66 100 a1 a2
  rw [sm1] at c1
  rw [sm2] at c2
  rw [sm3] at c3
  rw [sm4] at c4
  rw [sm5] at c5
  replace c1 : ACalls Try.prog 10 [slN [IA, IB], slN [rk1 IA, IB], slI [66, 0], slI [100, 100]] (.tup [slB [true, false], cI 0]) := c1
  replace c2 : ACalls Try.prog 10 [slN [IA, IB], slN [rk1 IA, rk1 IB], slI [66, 65], slI [100, 100]] (.tup [slB [false, false], cI 0]) := c2
  replace c3 : ACalls Try.prog 10 [slN [IA, IB], slN [nt30 IA, rk1 IB], slI [51, 66], slI [100, 100]] (.tup [slB [true, true], cI 0]) := c3
  have w1 : nth [IA, IB] (0 : Int).toNat = IA := by simp [nth]
  have w2 : nth [rk1 IA, IB] (0 : Int).toNat = rk1 IA := by simp [nth]
  replace c4 : ACalls Try.prog 13 [aN (nth [IA, IB] (0 : Int).toNat), aN (nth [rk1 IA, IB] (0 : Int).toNat)] (.pv (cI 660)) := by rw [w1, w2]; exact c4
  replace c5 : ACalls Try.prog 15 [aN (nth [IA, IB] (0 : Int).toNat), aN (nth [rk1 IA, IB] (0 : Int).toNat), cI 66, cI 100] (.pv (cB true)) := by rw [w1, w2]; exact c5
  have d1 := bools_ok [true, false] [true, false] (by simp)
  have d2 := bools_ok [false, false] [false, false] (by simp)
  have d3 := bools_ok [true, true] [true, true] (by simp)
  rw [decide_eq_true rfl] at d1 d2 d3
  refine ACalls.of_W (qs := [cB true]) [0] 104 Try.func8 (by kernel_rfl) rfl rfl rfl fun G => ?_
  refine W.initA (hw := ?_)
  repeat' (first
    | (refine RG.weaken (Le.trans (Le.freeze1 (m := 40) rfl) Le.freeze) ?_)
    | (refine RG.weaken (Le.trans (Le.freeze1 (m := 48) rfl) Le.freeze) ?_)
    | (refine RG.weaken (Le.trans (Le.freeze1 (m := 56) rfl) Le.freeze) ?_)
    | apply RG.nil
    | apply Lex.nil
    | apply Then.n
    | apply Then.r
    | apply Then.x
    | apply InBlock.n
    | apply InBlock.r
    | apply InBlock.hit
    | (apply InBlock.miss; exact rfl)
    | apply W.seq
    | apply W.region
    | apply W.block
    | apply W.skip
    | apply W.ret
    | apply W.exit
    | (apply W.draw2 (id := 4) [0, 1, 3, 0, 15, 31] [[2], [20], [21], []] 4 [(20, 4), (21, 1048576), (22, 2097152), (23, 0)] mixed (by kernel_rfl) rfl rfl)
    | (apply W.draw2 (id := 6) [0, 0, 2, 6, 15, 31] [[], [3], [29], [30]] 4 [(28, 0), (29, 8), (30, 536870912), (31, 1073741824)] mixed (by kernel_rfl) rfl rfl)
    | ((first | apply U_ | (apply Ug_; exact rfl; exact rfl) | (apply Ugq_; exact rfl; exact rfl) | apply Lex.u | (apply Lex.g; exact rfl; exact rfl) | (apply Lex.gq; exact rfl; exact rfl)); (first
    | exact QX.Move TYok
    | exact QX.Asg TYok
    | exact QX.Fld TYok
    | exact QX.Ld TYok
    | exact QX.Bin TYok
    | exact QX.Pick TYok
    | exact QX.Idx TYok
    | exact QX.Ext TYok
    | (apply Q_index TYok; exact Ev.auto; exact Ev.auto; exact rfl; exact rfl; exact rfl; exact rfl; exact rfl; (intro hg; simp))
    | (apply Q_calld (ta); exact EvD.auto)
    | (apply Q_calld (tb); exact EvD.auto)
    | (apply Q_calld (c1); exact EvD.auto)
    | (apply Q_calld (c2); exact EvD.auto)
    | (apply Q_calld (c3); exact EvD.auto)
    | (apply Q_calld (c4); exact EvD.auto)
    | (apply Q_calld (c5); exact EvD.auto)
    | (apply Q_call (d1); exact EvL.auto; exact rfl)
    | (apply Q_call (d2); exact EvL.auto; exact rfl)
    | (apply Q_call (d3); exact EvL.auto; exact rfl)); exact rfl)
    | refine SX.Store TYok (h := ?_)
    | refine SX.Lit TYok (h := ?_)
    | (apply S_isnil TYok; exact rfl; exact rfl; exact rfl; exact Ev.auto; intro bn hnil)
    | (apply RG.gT; exact rfl; exact rfl; (first | assumption | decide))
    | (apply RG.gF; exact rfl; exact rfl; (first | assumption | decide | (rw [ne_eq, Bool.not_eq_true]; assumption) | (rw [ne_eq, Bool.not_eq_false]; assumption)); exact rfl)
    | (refine W.condA (ht := fun hb => ?_) (hf := fun hb => ?_) <;> (try simp at hb) <;> (try (exfalso; omega))))
  refine W.weaken (B := mkSt 104 [(1, (True, .pv (slN [IA, IB]))), (2, (True, .pv (slN [rk1 IA, IB]))), (5, (True, .pv (slB [true, false]))), (6, (True, .pv (cI 0))), (7, (True, .pv (slB [false, false]))), (8, (True, .pv (cI 0))), (9, (True, .pv (slB [true, true]))), (10, (True, .pv (cI 0)))] [] []) ?_ ?_
  · exact Le.auto
  apply W.norm (by repeat (first | exact App.nil | apply App.cons))
  repeat' (first
    | apply RG.nil
    | apply Lex.nil
    | apply Then.n
    | apply Then.r
    | apply Then.x
    | apply InBlock.n
    | apply InBlock.r
    | apply InBlock.hit
    | (apply InBlock.miss; exact rfl)
    | apply W.seq
    | apply W.region
    | apply W.block
    | apply W.skip
    | apply W.ret
    | apply W.exit
    | (apply W.draw2 (id := 4) [0, 1, 3, 0, 15, 31] [[2], [20], [21], []] 4 [(20, 4), (21, 1048576), (22, 2097152), (23, 0)] mixed (by kernel_rfl) rfl rfl)
    | (apply W.draw2 (id := 6) [0, 0, 2, 6, 15, 31] [[], [3], [29], [30]] 4 [(28, 0), (29, 8), (30, 536870912), (31, 1073741824)] mixed (by kernel_rfl) rfl rfl)
    | (refine W.drawE (id := 11) [0, 1, 3, 7, 15, 31, 63, 127, 255, 511, 1023, 2047, 2047, 8191, 16383, 32767, 65535, 65535, 262143, 524287, 1048575, 2097151, 2097151, 8388607, 16777215, 33554431, 67108863, 134217727, 268435455, 67108863, 603979775, 1677721599, 4294967295, 8589934591, 17179869183, 34359738367, 68719476735, 137438953471, 274877906943, 68719476735, 618475290623, 1717986918399, 4398046511103, 8796093022207, 17592186044415] [[6], [60], [61], [8, 62], [63, 62], [62, 64], [65], [10, 66], [67, 66], [66, 68], [69], [5, 70], [70], [71, 72, 70], [70, 73], [74], [7, 75], [75], [76, 77, 75], [75, 78], [79], [9, 80], [80], [81, 82, 80], [80, 83], [84], [1, 85], [86, 85], [87, 85], [2, 85], [89, 85], [90, 85], [88, 91, 85], [92, 85], [85, 93], [94], [1, 95], [96, 95], [97, 95], [2, 95], [99, 95], [100, 95], [98, 101, 95], [95, 102], [103]] [(60, 64), (61, 1152921504606846976), (62, 2305843009213693952), (63, 4611686018427388160), (64, 13835058055282163712), (65, 23058430092136939520), (66, 36893488147419103232), (67, 73786976294838207488), (68, 221360928884514619392), (69, 368934881474191032320), (70, 590295810358705651712), (71, 1180591620717411303456), (72, 1180591620717411303424), (73, 8264141345021879123968), (74, 10625324586456701730816), (75, 18889465931478580854784), (76, 37778931862957161709696), (77, 37778931862957161709568), (78, 264452523040700131966976), (79, 340010386766614455386112), (80, 604462909807314587353088), (81, 1208925819614629174706688), (82, 1208925819614629174706176), (83, 8462480737302404222943232), (84, 10880332376531662572355584), (85, 19342813113834066795298816), (86, 38685626227668133590597634), (87, 116056878683004400771792896), (88, 193428131138340667952988160), (89, 38685626227668133590597636), (90, 657655645870358271040159744), (91, 1276625665513048408489721856), (92, 2824050714619773752113627136), (93, 4990445783369189233187094528), (94, 9942205940510710332783591424), (95, 19807040628566084398385987584), (96, 39614081257132168796771975170), (97, 118842243771396506390315925504), (98, 198070406285660843983859875840), (99, 39614081257132168796771975172), (100, 673439381371246869545123577856), (101, 1307264681485361570293475180544), (102, 2891827931770648322164354187264), (103, 5110216482170049774783584796672), (0, 10141204801825835211973625643008)] [(12, (72, ⟨4, 1, [[.bool true], [.bool false]]⟩)), (17, (77, ⟨4, 1, [[.bool false], [.bool false]]⟩)), (22, (82, ⟨4, 1, [[.bool true], [.bool true]]⟩))] mixed (by kernel_rfl) rfl rfl rfl rfl rfl ?_)
    | apply LexE.nil
    | (apply LexE.e (k := 0); exact rfl; apply FreshAt.lit TYok; (repeat (first | exact EvR.nil | apply EvR.cons Ev.auto)); exact rfl; exact rfl; exact rfl; exact rfl; exact rfl; exact rfl; exact rfl; exact rfl; exact rfl; exact rfl; exact rfl)
    | (apply LexE.ge (k := 0); exact rfl; exact rfl; (first | assumption | decide | exact rfl); exact rfl; apply FreshAt.lit TYok; (repeat (first | exact EvR.nil | apply EvR.cons Ev.auto)); exact rfl; exact rfl; exact rfl; exact rfl; exact rfl; exact rfl; exact rfl; exact rfl; exact rfl; exact rfl; exact rfl)
    | (apply LexE.e (k := 1); exact rfl; apply FreshAt.lit TYok; (repeat (first | exact EvR.nil | apply EvR.cons Ev.auto)); exact rfl; exact rfl; exact rfl; exact rfl; exact rfl; exact rfl; exact rfl; exact rfl; exact rfl; exact rfl; exact rfl)
    | (apply LexE.ge (k := 1); exact rfl; exact rfl; (first | assumption | decide | exact rfl); exact rfl; apply FreshAt.lit TYok; (repeat (first | exact EvR.nil | apply EvR.cons Ev.auto)); exact rfl; exact rfl; exact rfl; exact rfl; exact rfl; exact rfl; exact rfl; exact rfl; exact rfl; exact rfl; exact rfl)
    | (apply LexE.e (k := 2); exact rfl; apply FreshAt.lit TYok; (repeat (first | exact EvR.nil | apply EvR.cons Ev.auto)); exact rfl; exact rfl; exact rfl; exact rfl; exact rfl; exact rfl; exact rfl; exact rfl; exact rfl; exact rfl; exact rfl)
    | (apply LexE.ge (k := 2); exact rfl; exact rfl; (first | assumption | decide | exact rfl); exact rfl; apply FreshAt.lit TYok; (repeat (first | exact EvR.nil | apply EvR.cons Ev.auto)); exact rfl; exact rfl; exact rfl; exact rfl; exact rfl; exact rfl; exact rfl; exact rfl; exact rfl; exact rfl; exact rfl)
    | ((first | apply LexE.u | (apply LexE.g; exact rfl; exact rfl) | (apply LexE.gq; exact rfl; exact rfl)); (first | (first | exact QX.Move TYok | exact QX.Asg TYok | exact QX.Fld TYok | exact QX.Ld TYok | exact QX.Bin TYok | exact QX.Pick TYok | exact QX.Idx TYok | exact QX.Ext TYok | (apply Q_indexd TYok; exact Ev.auto; exact Ev.auto; exact rfl; exact rfl; exact rfl; (intro hg; exact getRowI (by simp)); exact rfl) | (apply Q_calld (c4); exact EvD.auto) | (apply Q_calld (c5); exact EvD.auto) | (apply Q_call (d1); exact EvL.auto; exact rfl) | (apply Q_call (d2); exact EvL.auto; exact rfl) | (apply Q_call (d3); exact EvL.auto; exact rfl)) | (apply PureOp.off; intro hp; simp_all; done)); exact rfl; exact rfl; exact rfl)
    | ((first | apply U_ | (apply Ug_; exact rfl; exact rfl) | (apply Ugq_; exact rfl; exact rfl) | apply Lex.u | (apply Lex.g; exact rfl; exact rfl) | (apply Lex.gq; exact rfl; exact rfl)); (first
    | exact QX.Move TYok
    | exact QX.Asg TYok
    | exact QX.Fld TYok
    | exact QX.Ld TYok
    | exact QX.Bin TYok
    | exact QX.Pick TYok
    | exact QX.Idx TYok
    | exact QX.Ext TYok
    | (apply Q_indexd TYok; exact Ev.auto; exact Ev.auto; exact rfl; exact rfl; exact rfl; (intro hg; exact getRowI (by simp)); exact rfl)
    | (apply Q_calld (c4); exact EvD.auto)
    | (apply Q_calld (c5); exact EvD.auto)
    | (apply Q_call (d1); exact EvL.auto; exact rfl)
    | (apply Q_call (d2); exact EvL.auto; exact rfl)
    | (apply Q_call (d3); exact EvL.auto; exact rfl)); exact rfl)
    | refine SX.Store TYok (h := ?_)
    | refine SX.Lit TYok (h := ?_)
    | (apply S_isnil TYok; exact rfl; exact rfl; exact rfl; exact Ev.auto; intro bn hnil)
    | (apply RG.gT; exact rfl; exact rfl; (first | assumption | decide))
    | (apply RG.gF; exact rfl; exact rfl; (first | assumption | decide | (rw [ne_eq, Bool.not_eq_true]; assumption) | (rw [ne_eq, Bool.not_eq_false]; assumption)); exact rfl)
    | (refine W.condA (ht := fun hb => ?_) (hf := fun hb => ?_) <;> (try simp at hb) <;> (try (exfalso; omega))))
  exact Fin.ret ResL.auto
end Go.Proofs.Ytionjeodcmnneaa
