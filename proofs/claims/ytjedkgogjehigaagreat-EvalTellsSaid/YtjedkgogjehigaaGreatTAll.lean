/-
  EvalTells: the row: what came in is read, the contract of the function gives true, and what came in stands.
-/
import Derived.Test.YtjedkgogjehigaaGreatTS13
import Derived.Test.YtjedkgogjehigaaGreatTS11
import Derived.Test.YtjedkgogjehigaaGreatTS12
section
set_option linter.unusedVariables false
set_option linter.unusedSimpArgs false
set_option maxHeartbeats 8000000
set_option linter.unusedSectionVars false
namespace Go.Proofs.YtjedkgogjehigaaGreat
open Lf Go
attribute [local irreducible] PureOp EffOp Ev RG W Then InBlock Lf.Fin nth App InitE Pick SubE EvL EvD EvP EvR ResL Lf.Lex SubR SubBR EvC FinO FinM ResM ResD FinS val pw digs trimL
section
attribute [local irreducible] sgn mag gcdZ quoZ remZ fullZ fullE
theorem find_hit' {α : Type} [Inhabited α] {l : List α} {p : α → Bool} {k : Nat} (h : k < l.length) (h1 : (l.take k).any p = false) (h2 : p (nth l k) = true) : l.any p = true ∧ l.findIdx p = k := by
  have ha : l.any p = true := List.any_eq_true.2 ⟨nth l k, nth_mem h, h2⟩
  have := fidx_hit h h1 h2
  rw [fidx, if_pos ha] at this
  exact ⟨ha, by omega⟩
theorem nth_take' {α : Type} [Inhabited α] {l : List α} {n k : Nat} (h : k < n) : nth (l.take n) k = nth l k := by
  rw [nth, nth, List.getD_eq_getElem?_getD, List.getD_eq_getElem?_getD, List.getElem?_take, if_pos h]
variable {lets L : List Let} {en : EnvQ} {op k u : Int} {s : Str} {l : List Exp} {n : Nat}
abbrev RArg (L : List Let) (en : EnvQ) (l : List Exp) (j : Nat) (v : PV) (e : Int) : Prop := ACalls Tryz.prog 27 [.one (.sl (L.map encL)), aE (nth l j), eV en] (.tup [v, cI e])
theorem r_bad {e : Int} (he : e ≠ 0) (hop : op ≠ 0 ∧ op ≠ 1 ∧ op ≠ 2 ∧ op ≠ 3) (hl : 0 < l.length) (h0 : RArg L en l 0 zF0 e) : RC L en (rRec op k u s l) (.err e) := by
  show ACalls Tryz.prog 27 _ (.tup [zF0, cI e])
  refine ACalls.of_M TYok (qs := [zF0, cI e]) [.cell 6 40, .tmp 7] 177 Tryz.func27 (by kernel_rfl) rfl rfl rfl fun G => ?_
  refine W.initA (hw := ?_)
  repeat' (first | ((first | apply U_ | (apply Ug_; exact rfl; exact rfl) | (apply Ugq_; exact rfl; exact rfl) | apply Lex.u | (apply Lex.g; exact rfl; exact rfl) | (apply Lex.gq; exact rfl; exact rfl)); (first | exact QX.B TYok | exact QX.Len TYok | exact QX.Idx TYok | exact QX.Ext TYok | exact QX.Build TYok | exact QX.Cut TYok | exact QCd (h0)); exact rfl) | refine SX.Alloc TYok (h := ?_) | refine SX.Store TYok (h := ?_) | refine SX.Box TYok (h := ?_) | refine SC ?_ | (apply S_isnil TYok; exact rfl; exact rfl; exact rfl; exact Ev.auto; intro bn hnil) | (apply RG.gT; exact rfl; exact rfl; (first | assumption | decide)) | (apply RG.gF; exact rfl; exact rfl; (first | assumption | decide | (rw [ne_eq, Bool.not_eq_true]; assumption) | (rw [ne_eq, Bool.not_eq_false]; assumption)); exact rfl) | apply LexS.nil | (apply LexS.f; exact rfl; (first | (apply FreshV.alloc TYok; exact rfl; exact rfl; exact rfl; exact rfl) | (apply FreshV.lit TYok; (repeat (first | exact EvR.nil | apply EvR.cons Ev.auto)); exact rfl; exact rfl; exact rfl; exact rfl; exact rfl; exact rfl; exact rfl; exact rfl; exact rfl) | (apply FreshV.box; exact Ev.auto; exact rfl; exact rfl; exact rfl)); exact rfl; exact rfl; exact rfl) | (apply LexS.s; exact rfl; exact rfl; (apply StoreV.mk TYok; exact Ev.auto; exact Ev.auto; exact rfl; exact rfl; exact rfl; exact rfl; exact rfl)) | ((first | apply LexS.u | (apply LexS.g; exact rfl; exact rfl) | (apply LexS.gq; exact rfl; exact rfl)); (repeat (first | (apply NB.cons; exact rfl) | exact NB.nil rfl)); (first | exact QX.B TYok | exact QX.Len TYok | exact QX.Idx TYok | exact QX.Ext TYok | exact QX.Build TYok | exact QX.Cut TYok | exact QCd (h0)); exact rfl; exact rfl; exact rfl) | (apply W.draw2 (id := 10) [0, 0, 3, 7, 15, 0, 32, 127] [[0], [8], [37, 38], [39], [40], [4], [42], [41, 43]] 8 [(37, 1), (38, 256), (39, 412316860416), (40, 549755813888), (41, 1099511627776), (42, 16), (43, 4398046511104), (44, 10995116277760)] mixed (by kernel_rfl) rfl rfl) | (apply W.draw2 (id := 11) [0, 0, 3, 0, 0, 24, 56, 120, 0, 511, 1023, 1023, 4095, 8191] [[0], [8], [45, 46], [0], [8], [48, 49], [50], [51], [5], [47, 52, 53], [54], [54]] 12 [(45, 1), (46, 256), (47, 105553116266496), (48, 1), (49, 256), (50, 844424930131968), (51, 1125899906842624), (52, 2251799813685248), (53, 32), (54, 13651536370466816), (55, 18014398509481984), (56, 18014398509481984)] mixed (by kernel_rfl) rfl rfl) | (apply W.draw2 (id := 26) [0, 0, 2, 6, 14, 0, 63, 127, 127, 511, 1023] [[0], [4], [109], [110], [111], [5], [108, 112, 113], [114], [114]] 9 [(108, 1), (109, 16), (110, 649037107316853453566312041152512), (111, 1298074214633706907132624082305024), (112, 2596148429267413814265248164610048), (113, 32), (114, 15901409129262909612374645008236544), (115, 20769187434139310514121985316880384), (116, 20769187434139310514121985316880384)] mixed (by kernel_rfl) rfl rfl) | (apply W.draw2 (id := 27) [0, 0, 2, 6, 14, 0, 63, 127, 127, 511, 1023] [[0], [4], [118], [119], [120], [5], [117, 121, 122], [123], [123]] 9 [(117, 1), (118, 16), (119, 332306998946228968225951765070086144), (120, 664613997892457936451903530140172288), (121, 1329227995784915872903807060280344576), (122, 32), (123, 8141521474182609721535818244217110528), (124, 10633823966279326983230456482242756608), (125, 10633823966279326983230456482242756608)] mixed (by kernel_rfl) rfl rfl) | (refine W.drawS (id := 17) [0, 0, 2, 6, 14, 0, 63, 127, 255, 255, 0, 1535, 4095] [[0], [4], [82], [83], [84], [5], [81, 85, 86], [87], [80], [80], [], [9, 88], [89]] [(11, (9, ?_)), (10, (9, ?_))] [(11, 9), (10, 9)] mixed (by kernel_rfl) rfl ?_; rotate_left 2) | (refine W.drawS (id := 30) [0, 0, 2, 6, 14, 0, 63, 127, 255, 255, 0, 1535, 4095] [[0], [4], [145], [146], [147], [5], [144, 148, 149], [150], [143], [143], [], [12, 151], [152]] [(11, (12, ?_)), (10, (12, ?_))] [(11, 12), (10, 12)] mixed (by kernel_rfl) rfl ?_; rotate_left 2) | (refine W.condA (ht := fun hb => ?_) (hf := fun hb => ?_) <;> (try simp at hb) <;> (try (exfalso; omega))))
  all_goals first
    | exact FinM.ret (ResM.cell rfl rfl rfl rfl zeroSubF (ResM.tmp rfl rfl PSub.rfl' ResM.nil))
    | (exfalso; omega)
    | trace_state
theorem r_not {a : Rat} (hl : 0 < l.length) (h0 : RArg L en l 0 (zF a) 0) : RC L en (rRec 12 k u s l) (.ok (one01 (decide (sgn a.num = 0)))) := by
  have t1 := rtruth_ok (!!decide (sgn a.num = 0))
  rw [show one01 (!!decide (sgn a.num = 0)) = one01 (decide (sgn a.num = 0)) by rw [Bool.not_not]] at t1
  show ACalls Tryz.prog 27 _ (.tup [zF (one01 (decide (sgn a.num = 0))), cI 0])
  generalize one01 (decide (sgn a.num = 0)) = r at *
  refine ACalls.of_M TYok (qs := [zF r, cI 0]) [.cell 6 40, .tmp 7] 177 Tryz.func27 (by kernel_rfl) rfl rfl rfl fun G => ?_
  refine W.initA (hw := ?_)
  repeat' (first | ((first | apply U_ | (apply Ug_; exact rfl; exact rfl) | (apply Ugq_; exact rfl; exact rfl) | apply Lex.u | (apply Lex.g; exact rfl; exact rfl) | (apply Lex.gq; exact rfl; exact rfl)); (first | exact QX.B TYok | exact QX.Len TYok | exact QX.Idx TYok | exact QX.Ext TYok | exact QX.Build TYok | exact QX.Cut TYok | exact QCd (h0) | exact QCd (t1)); exact rfl) | refine SX.Alloc TYok (h := ?_) | refine SX.Store TYok (h := ?_) | refine SX.Box TYok (h := ?_) | refine SC ?_ | (apply S_isnil TYok; exact rfl; exact rfl; exact rfl; exact Ev.auto; intro bn hnil) | (apply RG.gT; exact rfl; exact rfl; (first | assumption | decide)) | (apply RG.gF; exact rfl; exact rfl; (first | assumption | decide | (rw [ne_eq, Bool.not_eq_true]; assumption) | (rw [ne_eq, Bool.not_eq_false]; assumption)); exact rfl) | apply LexS.nil | (apply LexS.f; exact rfl; (first | (apply FreshV.alloc TYok; exact rfl; exact rfl; exact rfl; exact rfl) | (apply FreshV.lit TYok; (repeat (first | exact EvR.nil | apply EvR.cons Ev.auto)); exact rfl; exact rfl; exact rfl; exact rfl; exact rfl; exact rfl; exact rfl; exact rfl; exact rfl) | (apply FreshV.box; exact Ev.auto; exact rfl; exact rfl; exact rfl)); exact rfl; exact rfl; exact rfl) | (apply LexS.s; exact rfl; exact rfl; (apply StoreV.mk TYok; exact Ev.auto; exact Ev.auto; exact rfl; exact rfl; exact rfl; exact rfl; exact rfl)) | ((first | apply LexS.u | (apply LexS.g; exact rfl; exact rfl) | (apply LexS.gq; exact rfl; exact rfl)); (repeat (first | (apply NB.cons; exact rfl) | exact NB.nil rfl)); (first | exact QX.B TYok | exact QX.Len TYok | exact QX.Idx TYok | exact QX.Ext TYok | exact QX.Build TYok | exact QX.Cut TYok | exact QCd (h0) | exact QCd (t1)); exact rfl; exact rfl; exact rfl) | (apply W.draw2 (id := 10) [0, 0, 3, 7, 15, 0, 32, 127] [[0], [8], [37, 38], [39], [40], [4], [42], [41, 43]] 8 [(37, 1), (38, 256), (39, 412316860416), (40, 549755813888), (41, 1099511627776), (42, 16), (43, 4398046511104), (44, 10995116277760)] mixed (by kernel_rfl) rfl rfl) | (apply W.draw2 (id := 11) [0, 0, 3, 0, 0, 24, 56, 120, 0, 511, 1023, 1023, 4095, 8191] [[0], [8], [45, 46], [0], [8], [48, 49], [50], [51], [5], [47, 52, 53], [54], [54]] 12 [(45, 1), (46, 256), (47, 105553116266496), (48, 1), (49, 256), (50, 844424930131968), (51, 1125899906842624), (52, 2251799813685248), (53, 32), (54, 13651536370466816), (55, 18014398509481984), (56, 18014398509481984)] mixed (by kernel_rfl) rfl rfl) | (apply W.draw2 (id := 26) [0, 0, 2, 6, 14, 0, 63, 127, 127, 511, 1023] [[0], [4], [109], [110], [111], [5], [108, 112, 113], [114], [114]] 9 [(108, 1), (109, 16), (110, 649037107316853453566312041152512), (111, 1298074214633706907132624082305024), (112, 2596148429267413814265248164610048), (113, 32), (114, 15901409129262909612374645008236544), (115, 20769187434139310514121985316880384), (116, 20769187434139310514121985316880384)] mixed (by kernel_rfl) rfl rfl) | (apply W.draw2 (id := 27) [0, 0, 2, 6, 14, 0, 63, 127, 127, 511, 1023] [[0], [4], [118], [119], [120], [5], [117, 121, 122], [123], [123]] 9 [(117, 1), (118, 16), (119, 332306998946228968225951765070086144), (120, 664613997892457936451903530140172288), (121, 1329227995784915872903807060280344576), (122, 32), (123, 8141521474182609721535818244217110528), (124, 10633823966279326983230456482242756608), (125, 10633823966279326983230456482242756608)] mixed (by kernel_rfl) rfl rfl) | (refine W.drawS (id := 17) [0, 0, 2, 6, 14, 0, 63, 127, 255, 255, 0, 1535, 4095] [[0], [4], [82], [83], [84], [5], [81, 85, 86], [87], [80], [80], [], [9, 88], [89]] [(11, (9, ?_)), (10, (9, ?_))] [(11, 9), (10, 9)] mixed (by kernel_rfl) rfl ?_; rotate_left 2) | (refine W.drawS (id := 30) [0, 0, 2, 6, 14, 0, 63, 127, 255, 255, 0, 1535, 4095] [[0], [4], [145], [146], [147], [5], [144, 148, 149], [150], [143], [143], [], [12, 151], [152]] [(11, (12, ?_)), (10, (12, ?_))] [(11, 12), (10, 12)] mixed (by kernel_rfl) rfl ?_; rotate_left 2) | (refine W.condA (ht := fun hb => ?_) (hf := fun hb => ?_) <;> (try simp at hb) <;> (try (exfalso; omega))))
  all_goals first
    | exact FinM.ret ResM.auto
    | (exfalso; omega)
    | trace_state
theorem r_if {a : Rat} {j : Nat} {R : Rs} (hl : l.length = 3) (h0 : RArg L en l 0 (zF a) 0) (hj : (sgn a.num = 0 ∧ j = 2) ∨ (sgn a.num ≠ 0 ∧ j = 1)) (h1 : RC L en (aE (nth l j)) R) : RC L en (rRec 15 k u s l) R := by
  obtain ⟨x1, x2, x3, x4, hv⟩ := R.v_agg
  replace h1 : ACalls Tryz.prog 27 [.one (.sl (L.map encL)), aE (nth l j), eV en] (.tup [R.v, cI R.e]) := h1
  show ACalls Tryz.prog 27 _ (.tup [R.v, cI R.e])
  rw [hv] at h1 ⊢
  generalize R.e = e at *
  rcases hj with ⟨hz, rfl⟩ | ⟨hz, rfl⟩
  · skip
    refine ACalls.of_M TYok (qs := [.agg [.int .i64 x1, .sl (x2.map Lf.encI), .int .i64 x3, .sl (x4.map Lf.encI)], cI e]) [.cell 6 40, .tmp 7] 177 Tryz.func27 (by kernel_rfl) rfl rfl rfl fun G => ?_
    refine W.initA (hw := ?_)
    repeat' (first | ((first | apply U_ | (apply Ug_; exact rfl; exact rfl) | (apply Ugq_; exact rfl; exact rfl) | apply Lex.u | (apply Lex.g; exact rfl; exact rfl) | (apply Lex.gq; exact rfl; exact rfl)); (first | exact QX.B TYok | exact QX.Len TYok | exact QX.Idx TYok | exact QX.Ext TYok | exact QX.Build TYok | exact QX.Cut TYok | exact QCd (h0) | exact QCd (h1)); exact rfl) | refine SX.Alloc TYok (h := ?_) | refine SX.Store TYok (h := ?_) | refine SX.Box TYok (h := ?_) | refine SC ?_ | (apply S_isnil TYok; exact rfl; exact rfl; exact rfl; exact Ev.auto; intro bn hnil) | (apply RG.gT; exact rfl; exact rfl; (first | assumption | decide)) | (apply RG.gF; exact rfl; exact rfl; (first | assumption | decide | (rw [ne_eq, Bool.not_eq_true]; assumption) | (rw [ne_eq, Bool.not_eq_false]; assumption)); exact rfl) | apply LexS.nil | (apply LexS.f; exact rfl; (first | (apply FreshV.alloc TYok; exact rfl; exact rfl; exact rfl; exact rfl) | (apply FreshV.lit TYok; (repeat (first | exact EvR.nil | apply EvR.cons Ev.auto)); exact rfl; exact rfl; exact rfl; exact rfl; exact rfl; exact rfl; exact rfl; exact rfl; exact rfl) | (apply FreshV.box; exact Ev.auto; exact rfl; exact rfl; exact rfl)); exact rfl; exact rfl; exact rfl) | (apply LexS.s; exact rfl; exact rfl; (apply StoreV.mk TYok; exact Ev.auto; exact Ev.auto; exact rfl; exact rfl; exact rfl; exact rfl; exact rfl)) | ((first | apply LexS.u | (apply LexS.g; exact rfl; exact rfl) | (apply LexS.gq; exact rfl; exact rfl)); (repeat (first | (apply NB.cons; exact rfl) | exact NB.nil rfl)); (first | exact QX.B TYok | exact QX.Len TYok | exact QX.Idx TYok | exact QX.Ext TYok | exact QX.Build TYok | exact QX.Cut TYok | exact QCd (h0) | exact QCd (h1)); exact rfl; exact rfl; exact rfl) | (apply W.draw2 (id := 10) [0, 0, 3, 7, 15, 0, 32, 127] [[0], [8], [37, 38], [39], [40], [4], [42], [41, 43]] 8 [(37, 1), (38, 256), (39, 412316860416), (40, 549755813888), (41, 1099511627776), (42, 16), (43, 4398046511104), (44, 10995116277760)] mixed (by kernel_rfl) rfl rfl) | (apply W.draw2 (id := 11) [0, 0, 3, 0, 0, 24, 56, 120, 0, 511, 1023, 1023, 4095, 8191] [[0], [8], [45, 46], [0], [8], [48, 49], [50], [51], [5], [47, 52, 53], [54], [54]] 12 [(45, 1), (46, 256), (47, 105553116266496), (48, 1), (49, 256), (50, 844424930131968), (51, 1125899906842624), (52, 2251799813685248), (53, 32), (54, 13651536370466816), (55, 18014398509481984), (56, 18014398509481984)] mixed (by kernel_rfl) rfl rfl) | (apply W.draw2 (id := 26) [0, 0, 2, 6, 14, 0, 63, 127, 127, 511, 1023] [[0], [4], [109], [110], [111], [5], [108, 112, 113], [114], [114]] 9 [(108, 1), (109, 16), (110, 649037107316853453566312041152512), (111, 1298074214633706907132624082305024), (112, 2596148429267413814265248164610048), (113, 32), (114, 15901409129262909612374645008236544), (115, 20769187434139310514121985316880384), (116, 20769187434139310514121985316880384)] mixed (by kernel_rfl) rfl rfl) | (apply W.draw2 (id := 27) [0, 0, 2, 6, 14, 0, 63, 127, 127, 511, 1023] [[0], [4], [118], [119], [120], [5], [117, 121, 122], [123], [123]] 9 [(117, 1), (118, 16), (119, 332306998946228968225951765070086144), (120, 664613997892457936451903530140172288), (121, 1329227995784915872903807060280344576), (122, 32), (123, 8141521474182609721535818244217110528), (124, 10633823966279326983230456482242756608), (125, 10633823966279326983230456482242756608)] mixed (by kernel_rfl) rfl rfl) | (refine W.drawS (id := 17) [0, 0, 2, 6, 14, 0, 63, 127, 255, 255, 0, 1535, 4095] [[0], [4], [82], [83], [84], [5], [81, 85, 86], [87], [80], [80], [], [9, 88], [89]] [(11, (9, ?_)), (10, (9, ?_))] [(11, 9), (10, 9)] mixed (by kernel_rfl) rfl ?_; rotate_left 2) | (refine W.drawS (id := 30) [0, 0, 2, 6, 14, 0, 63, 127, 255, 255, 0, 1535, 4095] [[0], [4], [145], [146], [147], [5], [144, 148, 149], [150], [143], [143], [], [12, 151], [152]] [(11, (12, ?_)), (10, (12, ?_))] [(11, 12), (10, 12)] mixed (by kernel_rfl) rfl ?_; rotate_left 2) | (refine W.condA (ht := fun hb => ?_) (hf := fun hb => ?_) <;> (try simp at hb) <;> (try (exfalso; omega))))
    all_goals first
      | exact FinM.ret ResM.auto
      | (exfalso; omega)
      | trace_state
  · skip
    refine ACalls.of_M TYok (qs := [.agg [.int .i64 x1, .sl (x2.map Lf.encI), .int .i64 x3, .sl (x4.map Lf.encI)], cI e]) [.cell 6 40, .tmp 7] 177 Tryz.func27 (by kernel_rfl) rfl rfl rfl fun G => ?_
    refine W.initA (hw := ?_)
    repeat' (first | ((first | apply U_ | (apply Ug_; exact rfl; exact rfl) | (apply Ugq_; exact rfl; exact rfl) | apply Lex.u | (apply Lex.g; exact rfl; exact rfl) | (apply Lex.gq; exact rfl; exact rfl)); (first | exact QX.B TYok | exact QX.Len TYok | exact QX.Idx TYok | exact QX.Ext TYok | exact QX.Build TYok | exact QX.Cut TYok | exact QCd (h0) | exact QCd (h1)); exact rfl) | refine SX.Alloc TYok (h := ?_) | refine SX.Store TYok (h := ?_) | refine SX.Box TYok (h := ?_) | refine SC ?_ | (apply S_isnil TYok; exact rfl; exact rfl; exact rfl; exact Ev.auto; intro bn hnil) | (apply RG.gT; exact rfl; exact rfl; (first | assumption | decide)) | (apply RG.gF; exact rfl; exact rfl; (first | assumption | decide | (rw [ne_eq, Bool.not_eq_true]; assumption) | (rw [ne_eq, Bool.not_eq_false]; assumption)); exact rfl) | apply LexS.nil | (apply LexS.f; exact rfl; (first | (apply FreshV.alloc TYok; exact rfl; exact rfl; exact rfl; exact rfl) | (apply FreshV.lit TYok; (repeat (first | exact EvR.nil | apply EvR.cons Ev.auto)); exact rfl; exact rfl; exact rfl; exact rfl; exact rfl; exact rfl; exact rfl; exact rfl; exact rfl) | (apply FreshV.box; exact Ev.auto; exact rfl; exact rfl; exact rfl)); exact rfl; exact rfl; exact rfl) | (apply LexS.s; exact rfl; exact rfl; (apply StoreV.mk TYok; exact Ev.auto; exact Ev.auto; exact rfl; exact rfl; exact rfl; exact rfl; exact rfl)) | ((first | apply LexS.u | (apply LexS.g; exact rfl; exact rfl) | (apply LexS.gq; exact rfl; exact rfl)); (repeat (first | (apply NB.cons; exact rfl) | exact NB.nil rfl)); (first | exact QX.B TYok | exact QX.Len TYok | exact QX.Idx TYok | exact QX.Ext TYok | exact QX.Build TYok | exact QX.Cut TYok | exact QCd (h0) | exact QCd (h1)); exact rfl; exact rfl; exact rfl) | (apply W.draw2 (id := 10) [0, 0, 3, 7, 15, 0, 32, 127] [[0], [8], [37, 38], [39], [40], [4], [42], [41, 43]] 8 [(37, 1), (38, 256), (39, 412316860416), (40, 549755813888), (41, 1099511627776), (42, 16), (43, 4398046511104), (44, 10995116277760)] mixed (by kernel_rfl) rfl rfl) | (apply W.draw2 (id := 11) [0, 0, 3, 0, 0, 24, 56, 120, 0, 511, 1023, 1023, 4095, 8191] [[0], [8], [45, 46], [0], [8], [48, 49], [50], [51], [5], [47, 52, 53], [54], [54]] 12 [(45, 1), (46, 256), (47, 105553116266496), (48, 1), (49, 256), (50, 844424930131968), (51, 1125899906842624), (52, 2251799813685248), (53, 32), (54, 13651536370466816), (55, 18014398509481984), (56, 18014398509481984)] mixed (by kernel_rfl) rfl rfl) | (apply W.draw2 (id := 26) [0, 0, 2, 6, 14, 0, 63, 127, 127, 511, 1023] [[0], [4], [109], [110], [111], [5], [108, 112, 113], [114], [114]] 9 [(108, 1), (109, 16), (110, 649037107316853453566312041152512), (111, 1298074214633706907132624082305024), (112, 2596148429267413814265248164610048), (113, 32), (114, 15901409129262909612374645008236544), (115, 20769187434139310514121985316880384), (116, 20769187434139310514121985316880384)] mixed (by kernel_rfl) rfl rfl) | (apply W.draw2 (id := 27) [0, 0, 2, 6, 14, 0, 63, 127, 127, 511, 1023] [[0], [4], [118], [119], [120], [5], [117, 121, 122], [123], [123]] 9 [(117, 1), (118, 16), (119, 332306998946228968225951765070086144), (120, 664613997892457936451903530140172288), (121, 1329227995784915872903807060280344576), (122, 32), (123, 8141521474182609721535818244217110528), (124, 10633823966279326983230456482242756608), (125, 10633823966279326983230456482242756608)] mixed (by kernel_rfl) rfl rfl) | (refine W.drawS (id := 17) [0, 0, 2, 6, 14, 0, 63, 127, 255, 255, 0, 1535, 4095] [[0], [4], [82], [83], [84], [5], [81, 85, 86], [87], [80], [80], [], [9, 88], [89]] [(11, (9, ?_)), (10, (9, ?_))] [(11, 9), (10, 9)] mixed (by kernel_rfl) rfl ?_; rotate_left 2) | (refine W.drawS (id := 30) [0, 0, 2, 6, 14, 0, 63, 127, 255, 255, 0, 1535, 4095] [[0], [4], [145], [146], [147], [5], [144, 148, 149], [150], [143], [143], [], [12, 151], [152]] [(11, (12, ?_)), (10, (12, ?_))] [(11, 12), (10, 12)] mixed (by kernel_rfl) rfl ?_; rotate_left 2) | (refine W.condA (ht := fun hb => ?_) (hf := fun hb => ?_) <;> (try simp at hb) <;> (try (exfalso; omega))))
    all_goals first
      | exact FinM.ret ResM.auto
      | (exfalso; omega)
      | trace_state
theorem r_short {a : Rat} (hl : l.length = 2) (h0 : RArg L en l 0 (zF a) 0) (hop : (op = 13 ∧ sgn a.num = 0) ∨ (op = 14 ∧ sgn a.num ≠ 0)) : RC L en (rRec op k u s l) (.ok (one01 (!decide (sgn a.num = 0)))) := by
  have t1 := rtruth_ok (!decide (sgn a.num = 0))
  show ACalls Tryz.prog 27 _ (.tup [zF (one01 (!decide (sgn a.num = 0))), cI 0])
  generalize one01 (!decide (sgn a.num = 0)) = r at *
  rcases hop with ⟨rfl, hz⟩ | ⟨rfl, hz⟩
  · skip
    refine ACalls.of_M TYok (qs := [zF r, cI 0]) [.cell 6 40, .tmp 7] 177 Tryz.func27 (by kernel_rfl) rfl rfl rfl fun G => ?_
    refine W.initA (hw := ?_)
    repeat' (first | ((first | apply U_ | (apply Ug_; exact rfl; exact rfl) | (apply Ugq_; exact rfl; exact rfl) | apply Lex.u | (apply Lex.g; exact rfl; exact rfl) | (apply Lex.gq; exact rfl; exact rfl)); (first | exact QX.B TYok | exact QX.Len TYok | exact QX.Idx TYok | exact QX.Ext TYok | exact QX.Build TYok | exact QX.Cut TYok | exact QCd (h0) | exact QCd (t1)); exact rfl) | refine SX.Alloc TYok (h := ?_) | refine SX.Store TYok (h := ?_) | refine SX.Box TYok (h := ?_) | refine SC ?_ | (apply S_isnil TYok; exact rfl; exact rfl; exact rfl; exact Ev.auto; intro bn hnil) | (apply RG.gT; exact rfl; exact rfl; (first | assumption | decide)) | (apply RG.gF; exact rfl; exact rfl; (first | assumption | decide | (rw [ne_eq, Bool.not_eq_true]; assumption) | (rw [ne_eq, Bool.not_eq_false]; assumption)); exact rfl) | apply LexS.nil | (apply LexS.f; exact rfl; (first | (apply FreshV.alloc TYok; exact rfl; exact rfl; exact rfl; exact rfl) | (apply FreshV.lit TYok; (repeat (first | exact EvR.nil | apply EvR.cons Ev.auto)); exact rfl; exact rfl; exact rfl; exact rfl; exact rfl; exact rfl; exact rfl; exact rfl; exact rfl) | (apply FreshV.box; exact Ev.auto; exact rfl; exact rfl; exact rfl)); exact rfl; exact rfl; exact rfl) | (apply LexS.s; exact rfl; exact rfl; (apply StoreV.mk TYok; exact Ev.auto; exact Ev.auto; exact rfl; exact rfl; exact rfl; exact rfl; exact rfl)) | ((first | apply LexS.u | (apply LexS.g; exact rfl; exact rfl) | (apply LexS.gq; exact rfl; exact rfl)); (repeat (first | (apply NB.cons; exact rfl) | exact NB.nil rfl)); (first | exact QX.B TYok | exact QX.Len TYok | exact QX.Idx TYok | exact QX.Ext TYok | exact QX.Build TYok | exact QX.Cut TYok | exact QCd (h0) | exact QCd (t1)); exact rfl; exact rfl; exact rfl) | (apply W.draw2 (id := 10) [0, 0, 3, 7, 15, 0, 32, 127] [[0], [8], [37, 38], [39], [40], [4], [42], [41, 43]] 8 [(37, 1), (38, 256), (39, 412316860416), (40, 549755813888), (41, 1099511627776), (42, 16), (43, 4398046511104), (44, 10995116277760)] mixed (by kernel_rfl) rfl rfl) | (apply W.draw2 (id := 11) [0, 0, 3, 0, 0, 24, 56, 120, 0, 511, 1023, 1023, 4095, 8191] [[0], [8], [45, 46], [0], [8], [48, 49], [50], [51], [5], [47, 52, 53], [54], [54]] 12 [(45, 1), (46, 256), (47, 105553116266496), (48, 1), (49, 256), (50, 844424930131968), (51, 1125899906842624), (52, 2251799813685248), (53, 32), (54, 13651536370466816), (55, 18014398509481984), (56, 18014398509481984)] mixed (by kernel_rfl) rfl rfl) | (apply W.draw2 (id := 26) [0, 0, 2, 6, 14, 0, 63, 127, 127, 511, 1023] [[0], [4], [109], [110], [111], [5], [108, 112, 113], [114], [114]] 9 [(108, 1), (109, 16), (110, 649037107316853453566312041152512), (111, 1298074214633706907132624082305024), (112, 2596148429267413814265248164610048), (113, 32), (114, 15901409129262909612374645008236544), (115, 20769187434139310514121985316880384), (116, 20769187434139310514121985316880384)] mixed (by kernel_rfl) rfl rfl) | (apply W.draw2 (id := 27) [0, 0, 2, 6, 14, 0, 63, 127, 127, 511, 1023] [[0], [4], [118], [119], [120], [5], [117, 121, 122], [123], [123]] 9 [(117, 1), (118, 16), (119, 332306998946228968225951765070086144), (120, 664613997892457936451903530140172288), (121, 1329227995784915872903807060280344576), (122, 32), (123, 8141521474182609721535818244217110528), (124, 10633823966279326983230456482242756608), (125, 10633823966279326983230456482242756608)] mixed (by kernel_rfl) rfl rfl) | (refine W.drawS (id := 17) [0, 0, 2, 6, 14, 0, 63, 127, 255, 255, 0, 1535, 4095] [[0], [4], [82], [83], [84], [5], [81, 85, 86], [87], [80], [80], [], [9, 88], [89]] [(11, (9, ?_)), (10, (9, ?_))] [(11, 9), (10, 9)] mixed (by kernel_rfl) rfl ?_; rotate_left 2) | (refine W.drawS (id := 30) [0, 0, 2, 6, 14, 0, 63, 127, 255, 255, 0, 1535, 4095] [[0], [4], [145], [146], [147], [5], [144, 148, 149], [150], [143], [143], [], [12, 151], [152]] [(11, (12, ?_)), (10, (12, ?_))] [(11, 12), (10, 12)] mixed (by kernel_rfl) rfl ?_; rotate_left 2) | (refine W.condA (ht := fun hb => ?_) (hf := fun hb => ?_) <;> (try simp at hb) <;> (try (exfalso; omega))))
    all_goals first
      | exact FinM.ret ResM.auto
      | (exfalso; omega)
      | (exfalso; exact hb hz)
      | (exfalso; exact hz hb)
      | trace_state
  · skip
    refine ACalls.of_M TYok (qs := [zF r, cI 0]) [.cell 6 40, .tmp 7] 177 Tryz.func27 (by kernel_rfl) rfl rfl rfl fun G => ?_
    refine W.initA (hw := ?_)
    repeat' (first | ((first | apply U_ | (apply Ug_; exact rfl; exact rfl) | (apply Ugq_; exact rfl; exact rfl) | apply Lex.u | (apply Lex.g; exact rfl; exact rfl) | (apply Lex.gq; exact rfl; exact rfl)); (first | exact QX.B TYok | exact QX.Len TYok | exact QX.Idx TYok | exact QX.Ext TYok | exact QX.Build TYok | exact QX.Cut TYok | exact QCd (h0) | exact QCd (t1)); exact rfl) | refine SX.Alloc TYok (h := ?_) | refine SX.Store TYok (h := ?_) | refine SX.Box TYok (h := ?_) | refine SC ?_ | (apply S_isnil TYok; exact rfl; exact rfl; exact rfl; exact Ev.auto; intro bn hnil) | (apply RG.gT; exact rfl; exact rfl; (first | assumption | decide)) | (apply RG.gF; exact rfl; exact rfl; (first | assumption | decide | (rw [ne_eq, Bool.not_eq_true]; assumption) | (rw [ne_eq, Bool.not_eq_false]; assumption)); exact rfl) | apply LexS.nil | (apply LexS.f; exact rfl; (first | (apply FreshV.alloc TYok; exact rfl; exact rfl; exact rfl; exact rfl) | (apply FreshV.lit TYok; (repeat (first | exact EvR.nil | apply EvR.cons Ev.auto)); exact rfl; exact rfl; exact rfl; exact rfl; exact rfl; exact rfl; exact rfl; exact rfl; exact rfl) | (apply FreshV.box; exact Ev.auto; exact rfl; exact rfl; exact rfl)); exact rfl; exact rfl; exact rfl) | (apply LexS.s; exact rfl; exact rfl; (apply StoreV.mk TYok; exact Ev.auto; exact Ev.auto; exact rfl; exact rfl; exact rfl; exact rfl; exact rfl)) | ((first | apply LexS.u | (apply LexS.g; exact rfl; exact rfl) | (apply LexS.gq; exact rfl; exact rfl)); (repeat (first | (apply NB.cons; exact rfl) | exact NB.nil rfl)); (first | exact QX.B TYok | exact QX.Len TYok | exact QX.Idx TYok | exact QX.Ext TYok | exact QX.Build TYok | exact QX.Cut TYok | exact QCd (h0) | exact QCd (t1)); exact rfl; exact rfl; exact rfl) | (apply W.draw2 (id := 10) [0, 0, 3, 7, 15, 0, 32, 127] [[0], [8], [37, 38], [39], [40], [4], [42], [41, 43]] 8 [(37, 1), (38, 256), (39, 412316860416), (40, 549755813888), (41, 1099511627776), (42, 16), (43, 4398046511104), (44, 10995116277760)] mixed (by kernel_rfl) rfl rfl) | (apply W.draw2 (id := 11) [0, 0, 3, 0, 0, 24, 56, 120, 0, 511, 1023, 1023, 4095, 8191] [[0], [8], [45, 46], [0], [8], [48, 49], [50], [51], [5], [47, 52, 53], [54], [54]] 12 [(45, 1), (46, 256), (47, 105553116266496), (48, 1), (49, 256), (50, 844424930131968), (51, 1125899906842624), (52, 2251799813685248), (53, 32), (54, 13651536370466816), (55, 18014398509481984), (56, 18014398509481984)] mixed (by kernel_rfl) rfl rfl) | (apply W.draw2 (id := 26) [0, 0, 2, 6, 14, 0, 63, 127, 127, 511, 1023] [[0], [4], [109], [110], [111], [5], [108, 112, 113], [114], [114]] 9 [(108, 1), (109, 16), (110, 649037107316853453566312041152512), (111, 1298074214633706907132624082305024), (112, 2596148429267413814265248164610048), (113, 32), (114, 15901409129262909612374645008236544), (115, 20769187434139310514121985316880384), (116, 20769187434139310514121985316880384)] mixed (by kernel_rfl) rfl rfl) | (apply W.draw2 (id := 27) [0, 0, 2, 6, 14, 0, 63, 127, 127, 511, 1023] [[0], [4], [118], [119], [120], [5], [117, 121, 122], [123], [123]] 9 [(117, 1), (118, 16), (119, 332306998946228968225951765070086144), (120, 664613997892457936451903530140172288), (121, 1329227995784915872903807060280344576), (122, 32), (123, 8141521474182609721535818244217110528), (124, 10633823966279326983230456482242756608), (125, 10633823966279326983230456482242756608)] mixed (by kernel_rfl) rfl rfl) | (refine W.drawS (id := 17) [0, 0, 2, 6, 14, 0, 63, 127, 255, 255, 0, 1535, 4095] [[0], [4], [82], [83], [84], [5], [81, 85, 86], [87], [80], [80], [], [9, 88], [89]] [(11, (9, ?_)), (10, (9, ?_))] [(11, 9), (10, 9)] mixed (by kernel_rfl) rfl ?_; rotate_left 2) | (refine W.drawS (id := 30) [0, 0, 2, 6, 14, 0, 63, 127, 255, 255, 0, 1535, 4095] [[0], [4], [145], [146], [147], [5], [144, 148, 149], [150], [143], [143], [], [12, 151], [152]] [(11, (12, ?_)), (10, (12, ?_))] [(11, 12), (10, 12)] mixed (by kernel_rfl) rfl ?_; rotate_left 2) | (refine W.condA (ht := fun hb => ?_) (hf := fun hb => ?_) <;> (try simp at hb) <;> (try (exfalso; omega))))
    all_goals first
      | exact FinM.ret ResM.auto
      | (exfalso; omega)
      | (exfalso; exact hb hz)
      | (exfalso; exact hz hb)
      | trace_state
theorem r_bad1 {a : Rat} {e : Int} (he : e ≠ 0) (hop : op ≠ 0 ∧ op ≠ 1 ∧ op ≠ 2 ∧ op ≠ 3 ∧ op ≠ 12 ∧ op ≠ 15) (hs : ¬ (op = 13 ∧ sgn a.num = 0) ∧ ¬ (op = 14 ∧ sgn a.num ≠ 0)) (hl : l.length = 2) (h0 : RArg L en l 0 (zF a) 0) (h1 : RArg L en l 1 zF0 e) : RC L en (rRec op k u s l) (.err e) := by
  show ACalls Tryz.prog 27 _ (.tup [zF0, cI e])
  refine ACalls.of_M TYok (qs := [zF0, cI e]) [.cell 6 40, .tmp 7] 177 Tryz.func27 (by kernel_rfl) rfl rfl rfl fun G => ?_
  refine W.initA (hw := ?_)
  repeat' (first | ((first | apply U_ | (apply Ug_; exact rfl; exact rfl) | (apply Ugq_; exact rfl; exact rfl) | apply Lex.u | (apply Lex.g; exact rfl; exact rfl) | (apply Lex.gq; exact rfl; exact rfl)); (first | exact QX.B TYok | exact QX.Len TYok | exact QX.Idx TYok | exact QX.Ext TYok | exact QX.Build TYok | exact QX.Cut TYok | exact QCd (h0) | exact QCd (h1)); exact rfl) | refine SX.Alloc TYok (h := ?_) | refine SX.Store TYok (h := ?_) | refine SX.Box TYok (h := ?_) | refine SC ?_ | (apply S_isnil TYok; exact rfl; exact rfl; exact rfl; exact Ev.auto; intro bn hnil) | (apply RG.gT; exact rfl; exact rfl; (first | assumption | decide)) | (apply RG.gF; exact rfl; exact rfl; (first | assumption | decide | (rw [ne_eq, Bool.not_eq_true]; assumption) | (rw [ne_eq, Bool.not_eq_false]; assumption)); exact rfl) | apply LexS.nil | (apply LexS.f; exact rfl; (first | (apply FreshV.alloc TYok; exact rfl; exact rfl; exact rfl; exact rfl) | (apply FreshV.lit TYok; (repeat (first | exact EvR.nil | apply EvR.cons Ev.auto)); exact rfl; exact rfl; exact rfl; exact rfl; exact rfl; exact rfl; exact rfl; exact rfl; exact rfl) | (apply FreshV.box; exact Ev.auto; exact rfl; exact rfl; exact rfl)); exact rfl; exact rfl; exact rfl) | (apply LexS.s; exact rfl; exact rfl; (apply StoreV.mk TYok; exact Ev.auto; exact Ev.auto; exact rfl; exact rfl; exact rfl; exact rfl; exact rfl)) | ((first | apply LexS.u | (apply LexS.g; exact rfl; exact rfl) | (apply LexS.gq; exact rfl; exact rfl)); (repeat (first | (apply NB.cons; exact rfl) | exact NB.nil rfl)); (first | exact QX.B TYok | exact QX.Len TYok | exact QX.Idx TYok | exact QX.Ext TYok | exact QX.Build TYok | exact QX.Cut TYok | exact QCd (h0) | exact QCd (h1)); exact rfl; exact rfl; exact rfl) | (apply W.draw2 (id := 10) [0, 0, 3, 7, 15, 0, 32, 127] [[0], [8], [37, 38], [39], [40], [4], [42], [41, 43]] 8 [(37, 1), (38, 256), (39, 412316860416), (40, 549755813888), (41, 1099511627776), (42, 16), (43, 4398046511104), (44, 10995116277760)] mixed (by kernel_rfl) rfl rfl) | (apply W.draw2 (id := 11) [0, 0, 3, 0, 0, 24, 56, 120, 0, 511, 1023, 1023, 4095, 8191] [[0], [8], [45, 46], [0], [8], [48, 49], [50], [51], [5], [47, 52, 53], [54], [54]] 12 [(45, 1), (46, 256), (47, 105553116266496), (48, 1), (49, 256), (50, 844424930131968), (51, 1125899906842624), (52, 2251799813685248), (53, 32), (54, 13651536370466816), (55, 18014398509481984), (56, 18014398509481984)] mixed (by kernel_rfl) rfl rfl) | (apply W.draw2 (id := 26) [0, 0, 2, 6, 14, 0, 63, 127, 127, 511, 1023] [[0], [4], [109], [110], [111], [5], [108, 112, 113], [114], [114]] 9 [(108, 1), (109, 16), (110, 649037107316853453566312041152512), (111, 1298074214633706907132624082305024), (112, 2596148429267413814265248164610048), (113, 32), (114, 15901409129262909612374645008236544), (115, 20769187434139310514121985316880384), (116, 20769187434139310514121985316880384)] mixed (by kernel_rfl) rfl rfl) | (apply W.draw2 (id := 27) [0, 0, 2, 6, 14, 0, 63, 127, 127, 511, 1023] [[0], [4], [118], [119], [120], [5], [117, 121, 122], [123], [123]] 9 [(117, 1), (118, 16), (119, 332306998946228968225951765070086144), (120, 664613997892457936451903530140172288), (121, 1329227995784915872903807060280344576), (122, 32), (123, 8141521474182609721535818244217110528), (124, 10633823966279326983230456482242756608), (125, 10633823966279326983230456482242756608)] mixed (by kernel_rfl) rfl rfl) | (refine W.drawS (id := 17) [0, 0, 2, 6, 14, 0, 63, 127, 255, 255, 0, 1535, 4095] [[0], [4], [82], [83], [84], [5], [81, 85, 86], [87], [80], [80], [], [9, 88], [89]] [(11, (9, ?_)), (10, (9, ?_))] [(11, 9), (10, 9)] mixed (by kernel_rfl) rfl ?_; rotate_left 2) | (refine W.drawS (id := 30) [0, 0, 2, 6, 14, 0, 63, 127, 255, 255, 0, 1535, 4095] [[0], [4], [145], [146], [147], [5], [144, 148, 149], [150], [143], [143], [], [12, 151], [152]] [(11, (12, ?_)), (10, (12, ?_))] [(11, 12), (10, 12)] mixed (by kernel_rfl) rfl ?_; rotate_left 2) | (refine W.condA (ht := fun hb => ?_) (hf := fun hb => ?_) <;> (try simp at hb) <;> (try (exfalso; omega))))
  all_goals first
    | exact FinM.ret (ResM.cell rfl rfl rfl rfl zeroSubF (ResM.tmp rfl rfl PSub.rfl' ResM.nil))
    | (exfalso; omega)
    | trace_state
theorem r_logic {a c : Rat} (hop : op = 13 ∨ op = 14) (hs : ¬ (op = 13 ∧ sgn a.num = 0) ∧ ¬ (op = 14 ∧ sgn a.num ≠ 0)) (hl : l.length = 2) (h0 : RArg L en l 0 (zF a) 0) (h1 : RArg L en l 1 (zF c) 0) : RC L en (rRec op k u s l) (.ok (one01 (!decide (sgn c.num = 0)))) := by
  have t1 := rtruth_ok (!decide (sgn c.num = 0))
  show ACalls Tryz.prog 27 _ (.tup [zF (one01 (!decide (sgn c.num = 0))), cI 0])
  generalize one01 (!decide (sgn c.num = 0)) = r at *
  refine ACalls.of_M TYok (qs := [zF r, cI 0]) [.cell 6 40, .tmp 7] 177 Tryz.func27 (by kernel_rfl) rfl rfl rfl fun G => ?_
  refine W.initA (hw := ?_)
  repeat' (first | ((first | apply U_ | (apply Ug_; exact rfl; exact rfl) | (apply Ugq_; exact rfl; exact rfl) | apply Lex.u | (apply Lex.g; exact rfl; exact rfl) | (apply Lex.gq; exact rfl; exact rfl)); (first | exact QX.B TYok | exact QX.Len TYok | exact QX.Idx TYok | exact QX.Ext TYok | exact QX.Build TYok | exact QX.Cut TYok | exact QCd (h0) | exact QCd (h1) | exact QCd (t1)); exact rfl) | refine SX.Alloc TYok (h := ?_) | refine SX.Store TYok (h := ?_) | refine SX.Box TYok (h := ?_) | refine SC ?_ | (apply S_isnil TYok; exact rfl; exact rfl; exact rfl; exact Ev.auto; intro bn hnil) | (apply RG.gT; exact rfl; exact rfl; (first | assumption | decide)) | (apply RG.gF; exact rfl; exact rfl; (first | assumption | decide | (rw [ne_eq, Bool.not_eq_true]; assumption) | (rw [ne_eq, Bool.not_eq_false]; assumption)); exact rfl) | apply LexS.nil | (apply LexS.f; exact rfl; (first | (apply FreshV.alloc TYok; exact rfl; exact rfl; exact rfl; exact rfl) | (apply FreshV.lit TYok; (repeat (first | exact EvR.nil | apply EvR.cons Ev.auto)); exact rfl; exact rfl; exact rfl; exact rfl; exact rfl; exact rfl; exact rfl; exact rfl; exact rfl) | (apply FreshV.box; exact Ev.auto; exact rfl; exact rfl; exact rfl)); exact rfl; exact rfl; exact rfl) | (apply LexS.s; exact rfl; exact rfl; (apply StoreV.mk TYok; exact Ev.auto; exact Ev.auto; exact rfl; exact rfl; exact rfl; exact rfl; exact rfl)) | ((first | apply LexS.u | (apply LexS.g; exact rfl; exact rfl) | (apply LexS.gq; exact rfl; exact rfl)); (repeat (first | (apply NB.cons; exact rfl) | exact NB.nil rfl)); (first | exact QX.B TYok | exact QX.Len TYok | exact QX.Idx TYok | exact QX.Ext TYok | exact QX.Build TYok | exact QX.Cut TYok | exact QCd (h0) | exact QCd (h1) | exact QCd (t1)); exact rfl; exact rfl; exact rfl) | (apply W.draw2 (id := 10) [0, 0, 3, 7, 15, 0, 32, 127] [[0], [8], [37, 38], [39], [40], [4], [42], [41, 43]] 8 [(37, 1), (38, 256), (39, 412316860416), (40, 549755813888), (41, 1099511627776), (42, 16), (43, 4398046511104), (44, 10995116277760)] mixed (by kernel_rfl) rfl rfl) | (apply W.draw2 (id := 11) [0, 0, 3, 0, 0, 24, 56, 120, 0, 511, 1023, 1023, 4095, 8191] [[0], [8], [45, 46], [0], [8], [48, 49], [50], [51], [5], [47, 52, 53], [54], [54]] 12 [(45, 1), (46, 256), (47, 105553116266496), (48, 1), (49, 256), (50, 844424930131968), (51, 1125899906842624), (52, 2251799813685248), (53, 32), (54, 13651536370466816), (55, 18014398509481984), (56, 18014398509481984)] mixed (by kernel_rfl) rfl rfl) | (apply W.draw2 (id := 26) [0, 0, 2, 6, 14, 0, 63, 127, 127, 511, 1023] [[0], [4], [109], [110], [111], [5], [108, 112, 113], [114], [114]] 9 [(108, 1), (109, 16), (110, 649037107316853453566312041152512), (111, 1298074214633706907132624082305024), (112, 2596148429267413814265248164610048), (113, 32), (114, 15901409129262909612374645008236544), (115, 20769187434139310514121985316880384), (116, 20769187434139310514121985316880384)] mixed (by kernel_rfl) rfl rfl) | (apply W.draw2 (id := 27) [0, 0, 2, 6, 14, 0, 63, 127, 127, 511, 1023] [[0], [4], [118], [119], [120], [5], [117, 121, 122], [123], [123]] 9 [(117, 1), (118, 16), (119, 332306998946228968225951765070086144), (120, 664613997892457936451903530140172288), (121, 1329227995784915872903807060280344576), (122, 32), (123, 8141521474182609721535818244217110528), (124, 10633823966279326983230456482242756608), (125, 10633823966279326983230456482242756608)] mixed (by kernel_rfl) rfl rfl) | (refine W.drawS (id := 17) [0, 0, 2, 6, 14, 0, 63, 127, 255, 255, 0, 1535, 4095] [[0], [4], [82], [83], [84], [5], [81, 85, 86], [87], [80], [80], [], [9, 88], [89]] [(11, (9, ?_)), (10, (9, ?_))] [(11, 9), (10, 9)] mixed (by kernel_rfl) rfl ?_; rotate_left 2) | (refine W.drawS (id := 30) [0, 0, 2, 6, 14, 0, 63, 127, 255, 255, 0, 1535, 4095] [[0], [4], [145], [146], [147], [5], [144, 148, 149], [150], [143], [143], [], [12, 151], [152]] [(11, (12, ?_)), (10, (12, ?_))] [(11, 12), (10, 12)] mixed (by kernel_rfl) rfl ?_; rotate_left 2) | (refine W.condA (ht := fun hb => ?_) (hf := fun hb => ?_) <;> (try simp at hb) <;> (try (exfalso; omega))))
  all_goals first
    | exact FinM.ret ResM.auto
    | (exfalso; omega)
    | trace_state
theorem r_two {a c : Rat} {R : Rs} (hop : 4 ≤ op ∧ op ≤ 11) (hl : l.length = 2) (h0 : RArg L en l 0 (zF a) 0) (h1 : RArg L en l 1 (zF c) 0) (hbin : ACalls Tryz.prog 54 [cI op, zF a, zF c] (resP R)) : RC L en (rRec op k u s l) R := by
  obtain ⟨x1, x2, x3, x4, hv⟩ := R.v_agg
  unfold resP at hbin
  show ACalls Tryz.prog 27 _ (.tup [R.v, cI R.e])
  rw [hv] at hbin ⊢
  generalize R.e = e at *
  refine ACalls.of_M TYok (qs := [.agg [.int .i64 x1, .sl (x2.map Lf.encI), .int .i64 x3, .sl (x4.map Lf.encI)], cI e]) [.cell 6 40, .tmp 7] 177 Tryz.func27 (by kernel_rfl) rfl rfl rfl fun G => ?_
  refine W.initA (hw := ?_)
  repeat' (first | ((first | apply U_ | (apply Ug_; exact rfl; exact rfl) | (apply Ugq_; exact rfl; exact rfl) | apply Lex.u | (apply Lex.g; exact rfl; exact rfl) | (apply Lex.gq; exact rfl; exact rfl)); (first | exact QX.B TYok | exact QX.Len TYok | exact QX.Idx TYok | exact QX.Ext TYok | exact QX.Build TYok | exact QX.Cut TYok | exact QCd (h0) | exact QCd (h1) | exact QCd (hbin)); exact rfl) | refine SX.Alloc TYok (h := ?_) | refine SX.Store TYok (h := ?_) | refine SX.Box TYok (h := ?_) | refine SC ?_ | (apply S_isnil TYok; exact rfl; exact rfl; exact rfl; exact Ev.auto; intro bn hnil) | (apply RG.gT; exact rfl; exact rfl; (first | assumption | decide)) | (apply RG.gF; exact rfl; exact rfl; (first | assumption | decide | (rw [ne_eq, Bool.not_eq_true]; assumption) | (rw [ne_eq, Bool.not_eq_false]; assumption)); exact rfl) | apply LexS.nil | (apply LexS.f; exact rfl; (first | (apply FreshV.alloc TYok; exact rfl; exact rfl; exact rfl; exact rfl) | (apply FreshV.lit TYok; (repeat (first | exact EvR.nil | apply EvR.cons Ev.auto)); exact rfl; exact rfl; exact rfl; exact rfl; exact rfl; exact rfl; exact rfl; exact rfl; exact rfl) | (apply FreshV.box; exact Ev.auto; exact rfl; exact rfl; exact rfl)); exact rfl; exact rfl; exact rfl) | (apply LexS.s; exact rfl; exact rfl; (apply StoreV.mk TYok; exact Ev.auto; exact Ev.auto; exact rfl; exact rfl; exact rfl; exact rfl; exact rfl)) | ((first | apply LexS.u | (apply LexS.g; exact rfl; exact rfl) | (apply LexS.gq; exact rfl; exact rfl)); (repeat (first | (apply NB.cons; exact rfl) | exact NB.nil rfl)); (first | exact QX.B TYok | exact QX.Len TYok | exact QX.Idx TYok | exact QX.Ext TYok | exact QX.Build TYok | exact QX.Cut TYok | exact QCd (h0) | exact QCd (h1) | exact QCd (hbin)); exact rfl; exact rfl; exact rfl) | (apply W.draw2 (id := 10) [0, 0, 3, 7, 15, 0, 32, 127] [[0], [8], [37, 38], [39], [40], [4], [42], [41, 43]] 8 [(37, 1), (38, 256), (39, 412316860416), (40, 549755813888), (41, 1099511627776), (42, 16), (43, 4398046511104), (44, 10995116277760)] mixed (by kernel_rfl) rfl rfl) | (apply W.draw2 (id := 11) [0, 0, 3, 0, 0, 24, 56, 120, 0, 511, 1023, 1023, 4095, 8191] [[0], [8], [45, 46], [0], [8], [48, 49], [50], [51], [5], [47, 52, 53], [54], [54]] 12 [(45, 1), (46, 256), (47, 105553116266496), (48, 1), (49, 256), (50, 844424930131968), (51, 1125899906842624), (52, 2251799813685248), (53, 32), (54, 13651536370466816), (55, 18014398509481984), (56, 18014398509481984)] mixed (by kernel_rfl) rfl rfl) | (apply W.draw2 (id := 26) [0, 0, 2, 6, 14, 0, 63, 127, 127, 511, 1023] [[0], [4], [109], [110], [111], [5], [108, 112, 113], [114], [114]] 9 [(108, 1), (109, 16), (110, 649037107316853453566312041152512), (111, 1298074214633706907132624082305024), (112, 2596148429267413814265248164610048), (113, 32), (114, 15901409129262909612374645008236544), (115, 20769187434139310514121985316880384), (116, 20769187434139310514121985316880384)] mixed (by kernel_rfl) rfl rfl) | (apply W.draw2 (id := 27) [0, 0, 2, 6, 14, 0, 63, 127, 127, 511, 1023] [[0], [4], [118], [119], [120], [5], [117, 121, 122], [123], [123]] 9 [(117, 1), (118, 16), (119, 332306998946228968225951765070086144), (120, 664613997892457936451903530140172288), (121, 1329227995784915872903807060280344576), (122, 32), (123, 8141521474182609721535818244217110528), (124, 10633823966279326983230456482242756608), (125, 10633823966279326983230456482242756608)] mixed (by kernel_rfl) rfl rfl) | (refine W.drawS (id := 17) [0, 0, 2, 6, 14, 0, 63, 127, 255, 255, 0, 1535, 4095] [[0], [4], [82], [83], [84], [5], [81, 85, 86], [87], [80], [80], [], [9, 88], [89]] [(11, (9, ?_)), (10, (9, ?_))] [(11, 9), (10, 9)] mixed (by kernel_rfl) rfl ?_; rotate_left 2) | (refine W.drawS (id := 30) [0, 0, 2, 6, 14, 0, 63, 127, 255, 255, 0, 1535, 4095] [[0], [4], [145], [146], [147], [5], [144, 148, 149], [150], [143], [143], [], [12, 151], [152]] [(11, (12, ?_)), (10, (12, ?_))] [(11, 12), (10, 12)] mixed (by kernel_rfl) rfl ?_; rotate_left 2) | (refine W.condA (ht := fun hb => ?_) (hf := fun hb => ?_) <;> (try simp at hb) <;> (try (exfalso; omega))))
  all_goals first
    | exact FinM.ret ResM.auto
    | (exfalso; omega)
    | trace_state
theorem rvalue_ok (hL : LetsOk lets) (he : en.Ok) : ∀ (n : Nat), n ≤ lets.length → ∀ (d : Nat) (e : Exp), rightF d e = true → tempF e = false → OkE e → RC (lets.take n) en (aE e) (valF lets en n e) := by
  intro n
  induction n using Nat.strongRecOn with
  | _ n ihn =>
  intro hn d
  have hlen : (lets.take n).length = n := by rw [List.length_take]; omega
  induction d with
  | zero => intro e hr; obtain ⟨op, k, u, s, l⟩ := e; rw [rightF] at hr; cases hr
  | succ d ih =>
  intro e hr ht hok
  obtain ⟨op, k, u, s, l⟩ := e
  cases hok with
  | mk hs hl hx =>
  rw [aE_mk, valF, evF_mk]
  have fit : ∀ x, rightF d x = true ∧ tempF x = false → (valF lets en n x).fit := fun x h => evF_fit he (tabF_fit he hL n hn) d x h.1 h.2
  unfold stepF
  rcases stat_cases hr ht with ⟨rfl, rfl, hk⟩ | ⟨rfl, rfl⟩ | ⟨rfl, rfl⟩ | ⟨rfl, rfl⟩ | ⟨h1, h2⟩
  · rw [if_pos rfl]
    refine r_num _ (fun h => ?_) (fun h => ?_)
    · rw [if_pos h]; exact qof_ok k 1000 hk (by unfold i64B; omega) (by omega)
    · rw [if_neg h]; exact rnum_ok k hk
  · rw [if_neg (by omega), if_pos rfl, lookN, tabF_len]
    refine r_name (by have := hL.1; omega) (fun i => valF lets en i (nth lets i).body) _ (fun i hi => ?_) (fun i hi h3 h4 => ?_) (fun h => if_neg (by rw [h]; simp))
    · rw [hlen] at hi
      rw [take_map, List.take_take, Nat.min_eq_left (by omega), nth_take' hi]
      have hy := hL.2 _ (nth_mem (show i < lets.length by omega))
      have hst := statF_yes hy.1
      exact ihn i hi (by omega) 12 _ hst.1 hst.2 hy.2
    · obtain ⟨q1, q2⟩ := find_hit' hi h3 (show nameEq s (nth (lets.take n) i) = true from decide_eq_true h4)
      rw [if_pos q1, q2]
      rw [hlen] at hi
      exact (tabF_nth lets en hi).symm
  · rw [if_neg (by omega), if_neg (by omega), if_pos rfl]
    exact r_look _ (.inl ⟨rfl, rfl⟩) he
  · rw [if_neg (by omega), if_neg (by omega), if_neg (by omega), if_pos rfl]
    exact r_look _ (.inr ⟨rfl, rfl⟩) he
  · rw [if_neg (by omega), if_neg (by omega), if_neg (by omega), if_neg (by omega)]
    have arg : ∀ j, j < l.length → RC (lets.take n) en (aE (nth l j)) (nth (l.map (evF lets en (tabF lets en n))) j) ∧ (nth (l.map (evF lets en (tabF lets en n))) j).fit := fun j hj => by
      rw [nth_map2 hj]
      have hm := nth_mem hj
      exact ⟨ih _ (h2 _ hm).1 (h2 _ hm).2 (hx _ hm), fit _ (h2 _ hm)⟩
    generalize l.map (evF lets en (tabF lets en n)) = A at *
    obtain ⟨g0, f0⟩ := arg 0 (by omega)
    cases h0 : nth A 0 with
    | err e => rw [h0] at g0 f0; exact r_bad f0 (by omega) (by omega) g0
    | ok a =>
      rw [h0] at g0 f0
      dsimp only
      by_cases h12 : op = 12
      · subst h12
        rw [if_pos rfl]
        exact r_not (by omega) g0
      rw [if_neg h12]
      by_cases h15 : op = 15
      · subst h15
        rw [if_pos rfl]
        split
        · rename_i hz
          exact r_if (by omega) g0 (.inl ⟨hz, rfl⟩) (arg 2 (by omega)).1
        · rename_i hz
          exact r_if (by omega) g0 (.inr ⟨hz, rfl⟩) (arg 1 (by omega)).1
      rw [if_neg h15]
      split
      · rename_i hz
        exact r_short (by omega) g0 hz
      · rename_i hz
        obtain ⟨g1, f1⟩ := arg 1 (by omega)
        cases h1' : nth A 1 with
        | err e => rw [h1'] at g1 f1; exact r_bad1 f1 (by omega) (by omega) (by omega) g0 g1
        | ok c =>
          rw [h1'] at g1 f1
          dsimp only
          by_cases hlog : op = 13 ∨ op = 14
          · have e : binF op a c = .ok (one01 (!decide (sgn c.num = 0))) := by
              unfold binF
              rw [if_neg (by omega), if_neg (by omega), if_neg (by omega), if_neg (by omega), if_neg (by omega), if_neg (by omega), if_neg (by omega), if_neg (by omega)]
            rw [e]
            exact r_logic hlog (by omega) (by omega) g0 g1
          · exact r_two (by omega) (by omega) g0 g1 (rtwo_ok op f0 f1 (by omega))
theorem rValue_arg (hl : LIn lets) {e : Exp} (he : OkE e) {v : EnvV} (hv : v.Len) (h : askF lets e v = false) : ACalls Tryz.prog 9 [xV lets, aE e, vV v] (.tup [zF0, cI 1]) := by
  have h1 := rvalid_ok hl e he v hv
  rw [h] at h1
  clear h he hv
  obtain ⟨op, k, u, s, l⟩ := e
  obtain ⟨N, V, I, R⟩ := v
  refine ACalls.of_M TYok (qs := [zF0, cI 1]) [.cell 6 40, .tmp 7] 29 Tryz.func9 (by kernel_rfl) rfl rfl rfl fun G => ?_
  refine W.initA (hw := ?_)
  repeat' (first | ((first | apply U_); (first | exact QX.B TYok | exact QX.Ext TYok | exact QX.Build TYok | exact QCd (h1)); exact rfl) | refine SX.Alloc TYok (h := ?_) | refine SX.Store TYok (h := ?_) | refine SX.Box TYok (h := ?_) | refine SC ?_ | (refine W.condA (ht := fun hb => ?_) (hf := fun hb => ?_) <;> (try simp at hb) <;> (try (exfalso; omega))))
  all_goals first
    | exact FinM.ret (ResM.cell rfl rfl rfl rfl zeroSubF (ResM.tmp rfl rfl PSub.rfl' ResM.nil))
    | (exfalso; omega)
    | trace_state
theorem rValue_yes (hl : LIn lets) (hL : LetsOk lets) (oen : en.Ok) {e : Exp} (he : OkE e) (hs : statF e = true) : ACalls Tryz.prog 9 [xV lets, aE e, vV en.V] (resP (valF lets en lets.length e)) := by
  have h1 := rvalid_ok hl e he en.V (envq_len oen)
  have ha : askF lets e en.V = true := by
    unfold askF
    rw [hs, decide_eq_true hL.1, lets_any hL, validF_q oen]; rfl
  rw [ha] at h1
  have h2 := rvalue_ok hL oen lets.length (Nat.le_refl _) 12 e (statF_yes hs).1 (statF_yes hs).2 he
  have hf := valF_fit hL oen hs
  rw [List.take_length] at h2
  rw [vV_q] at h1 ⊢
  generalize valF lets en lets.length e = R at *
  clear ha hs he
  obtain ⟨op, k, u, s, l⟩ := e
  cases R with
  | err c =>
    have hc : c ≠ 0 := hf
    replace h2 : ACalls Tryz.prog 27 [.one (.sl (lets.map encL)), aE (.mk op k u s l), eV en] (.tup [zF0, cI c]) := h2
    show ACalls Tryz.prog 9 _ (.tup [zF0, cI c])
    refine ACalls.of_M TYok (qs := [zF0, cI c]) [.cell 6 40, .tmp 7] 29 Tryz.func9 (by kernel_rfl) rfl rfl rfl fun G => ?_
    refine W.initA (hw := ?_)
    repeat' (first | ((first | apply U_); (first | exact QX.B TYok | exact QX.Ext TYok | exact QX.Build TYok | exact QCd (h1) | exact QCd (h2)); exact rfl) | refine SX.Alloc TYok (h := ?_) | refine SX.Store TYok (h := ?_) | refine SX.Box TYok (h := ?_) | refine SC ?_ | (refine W.condA (ht := fun hb => ?_) (hf := fun hb => ?_) <;> (try simp at hb) <;> (try (exfalso; omega))))
    all_goals first
      | exact FinM.ret (ResM.cell rfl rfl rfl rfl zeroSubF (ResM.tmp rfl rfl PSub.rfl' ResM.nil))
      | (exfalso; omega)
      | trace_state
  | ok r =>
    replace h2 : ACalls Tryz.prog 27 [.one (.sl (lets.map encL)), aE (.mk op k u s l), eV en] (.tup [zF r, cI 0]) := h2
    show ACalls Tryz.prog 9 _ (.tup [zF r, cI 0])
    refine ACalls.of_M TYok (qs := [zF r, cI 0]) [.cell 6 40, .tmp 7] 29 Tryz.func9 (by kernel_rfl) rfl rfl rfl fun G => ?_
    refine W.initA (hw := ?_)
    repeat' (first | ((first | apply U_); (first | exact QX.B TYok | exact QX.Ext TYok | exact QX.Build TYok | exact QCd (h1) | exact QCd (h2)); exact rfl) | refine SX.Alloc TYok (h := ?_) | refine SX.Store TYok (h := ?_) | refine SX.Box TYok (h := ?_) | refine SC ?_ | (refine W.condA (ht := fun hb => ?_) (hf := fun hb => ?_) <;> (try simp at hb) <;> (try (exfalso; omega))))
    all_goals first
      | exact FinM.ret ResM.auto
      | (exfalso; omega)
      | trace_state
theorem tells_ok (hl : LIn lets) (e : Exp) (he : OkE e) (v : EnvV) (hv : v.Len) : ACalls Tryz.prog 3 [slL lets, aE e, vV v] (.pv (cB true)) := by
  have h0 := small_ok
  have h1 := few_ok hl e he v hv
  have h2 := env_ok v
  have both : ∃ R : Rs, R.fit ∧ ACalls Tryz.prog 7 [xV lets, aE e, vV v] (resP R) ∧ ACalls Tryz.prog 9 [xV lets, aE e, vV v] (resP R) := by
    by_cases ha : askF lets e v = false
    · exact ⟨.err 1, (by decide : (1 : Int) ≠ 0), value_arg hl he hv ha, rValue_arg hl he hv ha⟩
    · rw [Bool.not_eq_false] at ha
      unfold askF at ha
      simp only [Bool.and_eq_true, decide_eq_true_iff, Bool.not_eq_true'] at ha
      obtain ⟨⟨a1, a2⟩, a3, a4⟩ := ha
      have hL := lets_ok hl a2 a3
      obtain ⟨en, oen, rfl⟩ := env_q hv a4
      exact ⟨_, valF_fit hL oen a1, value_yes hL oen a1 he, rValue_yes hl hL oen he a1⟩
  obtain ⟨R, fit, h3, h4⟩ := both
  have h5 := sameV_ok R fit
  obtain ⟨x1, x2, x3, x4, hR⟩ := R.v_agg
  unfold resP at h3 h4
  rw [hR] at h3 h4 h5
  generalize R.e = c at *
  generalize fewF lets e v = b at *
  clear hR fit hv he
  obtain ⟨op, k, u, s, l⟩ := e
  obtain ⟨N, V, I, Rt⟩ := v
  refine ACalls.of_W (qs := [cB true]) [6] 48 Tryz.func3 (by kernel_rfl) rfl rfl rfl fun G => ?_
  refine W.initA (hw := ?_)
  repeat' (first | ((first | apply U_ | (apply Ug_; exact rfl; exact rfl) | (apply Ugq_; exact rfl; exact rfl)); (first | exact QX.B TYok | exact QX.Ext TYok | exact QX.Build TYok | exact QCd (h0) | exact QCd (h1) | exact QCd (h2) | exact QCd (h3) | exact QCd (h4) | exact QCd (h5)); exact rfl) | refine SX.Alloc TYok (h := ?_) | refine SX.Store TYok (h := ?_) | refine SX.Box TYok (h := ?_) | refine SC ?_ | (apply S_isnil TYok; exact rfl; exact rfl; exact rfl; exact Ev.auto; intro bn hnil) | (apply RG.gT; exact rfl; exact rfl; (first | assumption | decide)) | (apply RG.gF; exact rfl; exact rfl; (first | assumption | decide | (rw [ne_eq, Bool.not_eq_true]; assumption) | (rw [ne_eq, Bool.not_eq_false]; assumption)); exact rfl) | apply LexS.nil | (apply LexS.f; exact rfl; (first | (apply FreshV.alloc TYok; exact rfl; exact rfl; exact rfl; exact rfl) | (apply FreshV.lit TYok; (repeat (first | exact EvR.nil | apply EvR.cons Ev.auto)); exact rfl; exact rfl; exact rfl; exact rfl; exact rfl; exact rfl; exact rfl; exact rfl; exact rfl) | (apply FreshV.box; exact Ev.auto; exact rfl; exact rfl; exact rfl)); exact rfl; exact rfl; exact rfl) | (apply LexS.s; exact rfl; exact rfl; (apply StoreV.mk TYok; exact Ev.auto; exact Ev.auto; exact rfl; exact rfl; exact rfl; exact rfl; exact rfl)) | ((first | apply LexS.u | (apply LexS.g; exact rfl; exact rfl) | (apply LexS.gq; exact rfl; exact rfl)); (repeat (first | (apply NB.cons; exact rfl) | exact NB.nil rfl)); (first | exact QX.B TYok | exact QX.Ext TYok | exact QX.Build TYok | exact QCd (h0) | exact QCd (h1) | exact QCd (h2) | exact QCd (h3) | exact QCd (h4) | exact QCd (h5)); exact rfl; exact rfl; exact rfl) | (refine W.drawS (id := 5) [0, 0, 0, 4, 15, 31, 63, 63, 0, 383, 1023] [[8], [4], [5], [25], [23, 24, 26], [27], [22], [22], [], [9, 28], [29]] [(9, (9, ?_)), (8, (9, ?_))] [(9, 9), (8, 9)] mixed (by kernel_rfl) rfl ?_; rotate_left 2) | (refine W.condA (ht := fun hb => ?_) (hf := fun hb => ?_) <;> (try simp at hb) <;> (try (exfalso; omega))))
  all_goals first
    | exact Fin.ret ResL.auto
    | exact Fin.retB rfl (by simp)
    | (exfalso; omega)
    | trace_state
end
end Go.Proofs.YtjedkgogjehigaaGreat
end
section
set_option linter.unusedVariables false
set_option linter.unusedSimpArgs false
set_option linter.unusedSectionVars false
namespace Lf
open Go Go.RowKit Go.ChangeShapes Go.WideShapes Go.ChangeAt
def okK (T : TT) (R : Nat → Bool) (ti : TI) : Bool := match ti.kind with
  | .int _ | .bool | .string => Nat.beq ti.sz 1
  | .slice e => Nat.beq ti.sz 1 && R e && (match T e with | some te => Nat.blt 0 te.sz | none => false)
  | .struct fs => (match tile T 0 fs with | some s => Nat.beq s ti.sz | none => false) && fs.all fun f => R f.2
  | _ => false
def supR (T : TT) : Nat → Nat → Bool
  | 0, _ => true
  | n + 1, t => match T t with
    | some ti => okK T (supR T n) ti
    | none => false
def closedB (T : TT) (S : List Nat) : Bool := S.all fun t => match T t with | some ti => okK T (fun e => S.contains e) ti | none => false
theorem okK_mono {T : TT} {R R' : Nat → Bool} {ti : TI} (h : ∀ e, R e = true → R' e = true) (hk : okK T R ti = true) : okK T R' ti = true := by
  unfold okK at hk ⊢
  split at hk
  · exact hk
  · exact hk
  · exact hk
  · simp only [Bool.and_eq_true] at hk ⊢
    exact ⟨⟨hk.1.1, h _ hk.1.2⟩, hk.2⟩
  · simp only [Bool.and_eq_true, List.all_eq_true] at hk ⊢
    exact ⟨hk.1, fun f hf => h _ (hk.2 f hf)⟩
  · cases hk
theorem supR_closed {T : TT} {S : List Nat} (h : closedB T S = true) : ∀ (n t : Nat), t ∈ S → supR T n t = true
  | 0, _, _ => rfl
  | n + 1, t, ht => by
    have h1 := List.all_eq_true.1 h t ht
    rw [supR]
    cases hti : T t with
    | none => rw [hti] at h1; cases h1
    | some ti =>
      rw [hti] at h1
      exact okK_mono (fun e he => supR_closed h n e (by simpa using he)) h1
section
variable {P : Program} {T : TT} (hT : TOK P T)
include hT
theorem readR {H : Type} {enc : TypeId × Value → H} {w : World} {base : Nat} {spare : Nat → Bool} {held : Bool} : ∀ (n t fuel : Nat) (cs : List Value) (x : DataW H × List MemPlace), fuel ≤ n → supR T n t = true → DataW.trod enc P w base spare held fuel t cs = some x →
    ∃ cl, RelL (allΦ w) cs cl ∧ TyL T n t cl ∧ ∀ ti, T t = some ti → cl.length = ti.sz := by
  intro n
  induction n with
  | zero =>
    intro t fuel cs x hf hs h
    obtain rfl : fuel = 0 := by omega
    simp [DataW.trod] at h
  | succ n ih =>
    intro t fuel cs x hf hs h
    cases hti : T t with
    | none => simp [supR, hti] at hs
    | some ti =>
      have hk := (hT t ti hti).kind
      have hz := cellsOf_ti hT hti
      simp only [supR, hti, okK] at hs
      simp only [TyL, hti, Option.map_some]
      cases hkd : ti.kind with
      | int k =>
        rw [hkd] at hk hs
        obtain ⟨i, rfl, hx, hw⟩ := DataW.trod_int hk h
        exact ⟨[.int k i], ⟨.int k i, trivial⟩, ⟨i, rfl, hw⟩, fun tj hj => by obtain rfl := Option.some.inj hj; simpa using (Nat.eq_of_beq_eq_true hs).symm⟩
      | bool =>
        rw [hkd] at hk hs
        obtain ⟨b, rfl, hx⟩ := DataW.trod_bool hk h
        exact ⟨[.bool b], ⟨.bool b, trivial⟩, ⟨b, rfl⟩, fun tj hj => by obtain rfl := Option.some.inj hj; simpa using (Nat.eq_of_beq_eq_true hs).symm⟩
      | string =>
        rw [hkd] at hk hs
        obtain ⟨s, rfl, hx, hw⟩ := DataW.trod_string hk h
        refine ⟨[.str s.data.toList], ⟨.str s, trivial⟩, ⟨_, rfl, ?_⟩, fun tj hj => by obtain rfl := Option.some.inj hj; simpa using (Nat.eq_of_beq_eq_true hs).symm⟩
        rw [Array.length_toList]; exact hw
      | slice e =>
        rw [hkd] at hk hs
        simp only [Bool.and_eq_true] at hs
        obtain ⟨⟨hs1, hs2⟩, hs3⟩ := hs
        cases hte : T e with
        | none => rw [hte] at hs3; cases hs3
        | some te =>
          rw [hte] at hs3
          have hpos := blt_lt hs3
          have hze := cellsOf_ti hT hte
          have hlen1 : ∀ tj, some ti = some tj → 1 = tj.sz := fun tj hj => by obtain rfl := Option.some.inj hj; exact (Nat.eq_of_beq_eq_true hs1).symm
          rcases DataW.trod_slice hk h with ⟨rfl, hx⟩ | ⟨a, len, cap, elems, rest, m, rfl, rfl, hx, hb, hl, hm, hel, hget, _, _⟩
          · exact ⟨[.sl []], ⟨.sl0, trivial⟩, ⟨[], rfl, Nat.zero_le _, fun r hr => by cases hr⟩, hlen1⟩
          · have each : ∀ i, i < len → ∃ cl : List Cell, ∃ ci, w.cells? base (a.add (i * P.cellsOf e)) (P.cellsOf e) = some ci ∧ RelL (allΦ w) ci cl ∧ TyL T n e cl ∧ cl.length = te.sz := by
              intro i hi
              have h1 := hget i hi
              rw [List.getElem?_eq_getElem (by omega)] at h1
              cases hc : w.cells? base (a.add (i * P.cellsOf e)) (P.cellsOf e) with
              | none => rw [hc] at h1; cases h1
              | some ci =>
                rw [hc] at h1
                obtain ⟨cl, g1, g2, g3⟩ := ih e m ci _ (by omega) hs2 h1
                exact ⟨cl, ci, rfl, g1, g2, g3 te hte⟩
            obtain ⟨rows, hr1, hr2⟩ := pick_rows each
            refine ⟨[.sl rows], ⟨?_, trivial⟩, ⟨rows, rfl, by omega, fun r hr => ?_⟩, hlen1⟩
            · by_cases h0 : len = 0
              · subst h0
                obtain rfl : rows = [] := List.eq_nil_of_length_eq_zero hr1
                exact .slE a cap
              · obtain ⟨b, off, spot⟩ := a
                have cellat : ∀ i j r c, rows[i]? = some r → r[j]? = some c → ∃ v, w.cell? (Addr.add (Addr.add ⟨b, off, spot⟩ (i * te.sz)) j) = some v ∧ Rel (allΦ w) v c := by
                  intro i j r c h1 h2
                  obtain ⟨ci, g1, g2, g3, g4⟩ := hr2 i r h1
                  obtain ⟨v, hv1, hv2⟩ := g2.get h2
                  rw [hze] at g1
                  have hj : j < te.sz := by have := (List.getElem?_eq_some_iff.1 h2).1; omega
                  have := World.cells?_some g1
                  refine ⟨v, ?_, hv2⟩
                  rw [← hv1]
                  exact this.2.2 j hj
                have hrow0 : ∃ r, rows[0]? = some r := ⟨rows[0]'(by omega), List.getElem?_eq_getElem (by omega)⟩
                obtain ⟨r0, hr0⟩ := hrow0
                obtain ⟨_, _, _, _, hl0⟩ := hr2 0 r0 hr0
                obtain ⟨v0, hv0, _⟩ := cellat 0 0 r0 _ hr0 (List.getElem?_eq_getElem (show 0 < r0.length by omega))
                have hz0 : Addr.add (Addr.add ⟨b, off, spot⟩ (0 * te.sz)) 0 = ⟨b, off, spot⟩ := by simp [Addr.add]
                rw [hz0] at hv0
                have hsp : spot = none := (cell_all hv0).1
                subst hsp
                refine .sl b off len cap te.sz rows (fun i j => ((allΦ w b).bind (·[off + (i * te.sz + j)]?)).getD .nilFunc) hr1 hl (fun r hr => ?_) (fun i j r c h1 h2 => ?_) (fun i j r c h1 h2 => ?_)
                · obtain ⟨i, hi⟩ := List.getElem?_of_mem hr
                  obtain ⟨_, _, _, _, g⟩ := hr2 i r hi
                  exact g
                · obtain ⟨v, hv, _⟩ := cellat i j r c h1 h2
                  have := (cell_all hv).2
                  simp only [Addr.add_lit] at this
                  rw [show off + (i * te.sz + j) = off + i * te.sz + j by omega, this]; rfl
                · obtain ⟨v, hv, hv2⟩ := cellat i j r c h1 h2
                  have := (cell_all hv).2
                  simp only [Addr.add_lit] at this
                  rw [show off + (i * te.sz + j) = off + i * te.sz + j by omega, this]; exact hv2
            · obtain ⟨i, hi⟩ := List.getElem?_of_mem hr
              obtain ⟨_, _, _, g, _⟩ := hr2 i r hi
              exact g
      | struct fs =>
        rw [hkd] at hk hs
        obtain ⟨fields, hu, hfs⟩ := hk
        simp only [Bool.and_eq_true] at hs
        obtain ⟨hs1, hs2⟩ := hs
        cases htl : tile T 0 fs with
        | none => rw [htl] at hs1; cases hs1
        | some tot =>
          rw [htl] at hs1
          have htot := Nat.eq_of_beq_eq_true hs1
          obtain ⟨xs, m, rfl, hx, hlen, hxl, hget⟩ := DataW.trod_struct hu h
          have hall : ∀ f ∈ fs, ∃ y, DataW.trod enc P w base spare held m f.2 ((cs.drop f.1).take (P.cellsOf f.2)) = some y := by
            intro f hf
            rw [← hfs] at hf
            obtain ⟨g, hg, rfl⟩ := List.mem_map.1 hf
            obtain ⟨i, hi⟩ := List.getElem?_of_mem hg
            have hi' : fields[i]? = some g := by rw [← hi]; simp
            have hlt : i < xs.length := by rw [hxl]; exact (Array.getElem?_eq_some_iff.1 hi').1
            exact ⟨xs[i], by rw [hget i g hi', List.getElem?_eq_getElem hlt]⟩
          have main : ∀ (gs : List (Nat × Nat)) (o : Nat), (∀ f ∈ gs, ∃ y, DataW.trod enc P w base spare held m f.2 ((cs.drop f.1).take (P.cellsOf f.2)) = some y) → gs.all (fun f => supR T n f.2) = true → tile T o gs = some tot → cs.length = tot →
              ∃ cl, RelL (allΦ w) (cs.drop o) cl ∧ TyS (TyL T n) gs cl ∧ o + cl.length = tot := by
            intro gs
            induction gs with
            | nil =>
              intro o _ _ h1 h2
              simp only [tile, Option.some.injEq] at h1
              refine ⟨[], ?_, rfl, by simp [h1]⟩
              rw [List.drop_eq_nil_of_le (by omega)]
              trivial
            | cons f gs ihs =>
              intro o hall' hsup h1 h2
              obtain ⟨fo, ft⟩ := f
              rw [tile] at h1
              cases hbe : Nat.beq fo o with
              | false => rw [hbe] at h1; cases h1
              | true =>
                have := Nat.eq_of_beq_eq_true hbe
                subst this
                rw [hbe, cond_true] at h1
                cases htf : T ft with
                | none => rw [htf] at h1; cases h1
                | some tf =>
                  rw [htf] at h1
                  simp only [Option.bind_some] at h1
                  simp only [List.all_cons, Bool.and_eq_true] at hsup
                  obtain ⟨y, hy⟩ := hall' _ (List.mem_cons_self ..)
                  obtain ⟨c1, a1, a2, a3⟩ := ih ft m _ y (by omega) hsup.1 hy
                  obtain ⟨c2, b1, b2, b3⟩ := ihs (fo + tf.sz) (fun g hg => hall' g (List.mem_cons_of_mem _ hg)) hsup.2 h1 h2
                  have hl1 := a3 tf htf
                  refine ⟨c1 ++ c2, ?_, ⟨c1, c2, rfl, a2, b2⟩, by simp; omega⟩
                  have e : cs.drop fo = (cs.drop fo).take tf.sz ++ cs.drop (fo + tf.sz) := by
                    rw [← List.drop_drop, List.take_append_drop]
                  rw [e]
                  rw [cellsOf_ti hT htf] at a1
                  exact a1.append b1
          obtain ⟨cl, c1, c2, c3⟩ := main fs 0 hall hs2 htl (by rw [hlen, hz, htot])
          refine ⟨cl, by simpa using c1, c2, fun tj hj => ?_⟩
          obtain rfl := Option.some.inj hj
          omega
      | array k e => rw [hkd] at hs; cases hs
      | ptr e => rw [hkd] at hs; cases hs
      | map k e => rw [hkd] at hs; cases hs
      | func => rw [hkd] at hs; cases hs
      | iface => rw [hkd] at hs; cases hs
      | other => rw [hkd] at hs; cases hs
/-- A slice that came in. -/
theorem readR_slice {H : Type} {enc : TypeId × Value → H} {w : World} {base b0 : Nat} {spare : Nat → Bool} {held : Bool} {r : Reach} {t e : Nat} {v : Value} {d : DataW H} {ps : List MemPlace} {S : List Nat} (hS : closedB T S = true) (hm : t ∈ S) (hu : P.underlying t = some (.slice e))
    (hval : Value.okWide P w r b0 t v) (hd : DataW.Trod enc P w base spare held t v d ps) : ∃ n c, Rel (allΦ w) v c ∧ TyL T n t [c] := by
  obtain ⟨a, len, cap, rfl⟩ := okWide_slice hu hval
  obtain ⟨fuel, hf⟩ := hd
  obtain ⟨cl, h1, h2, _⟩ := readR hT fuel t fuel _ _ (Nat.le_refl _) (supR_closed hS _ _ hm) hf
  simp only [Value.cells] at h1
  match cl, h1, h2 with
  | [c], h1, h2 => exact ⟨_, c, h1.1, h2⟩
/-- A struct that came in. -/
theorem readR_struct {H : Type} {enc : TypeId × Value → H} {w : World} {base b0 : Nat} {spare : Nat → Bool} {held : Bool} {r : Reach} {t : Nat} {fs : Array Field} {v : Value} {d : DataW H} {ps : List MemPlace} {S : List Nat} (hS : closedB T S = true) (hm : t ∈ S) (hu : P.underlying t = some (.struct fs))
    (hval : Value.okWide P w r b0 t v) (hd : DataW.Trod enc P w base spare held t v d ps) : ∃ n cs, PRel (allΦ w) v (.agg cs) ∧ TyL T n t cs := by
  obtain ⟨arr, rfl, _⟩ := okWide_struct hu hval
  obtain ⟨fuel, hf⟩ := hd
  obtain ⟨cl, h1, h2, _⟩ := readR hT fuel t fuel _ _ (Nat.le_refl _) (supR_closed hS _ _ hm) hf
  exact ⟨_, cl, ⟨arr, rfl, h1⟩, h2⟩
end
end Lf
end
section
namespace Go.Proofs.YtjedkgogjehigaaGreat
open Lf Go
theorem exp_of : ∀ (n : Nat) {cs : List Cell}, TyL TY n 25 cs → ∃ e : Exp, cs = encX e ∧ OkE e
  | 0, cs, h => h.elim
  | 1, cs, h => by
    obtain ⟨a1, b1, rfl, t1, -⟩ : ∃ a1 b1, cs = a1 ++ b1 ∧ TyL TY 0 3 a1 ∧ True := by
      obtain ⟨a1, b1, h1, h2, _⟩ := h; exact ⟨a1, b1, h1, h2, trivial⟩
    exact t1.elim
  | n + 2, cs, h => by
    obtain ⟨a1, b1, rfl, t1, a2, b2, rfl, t2, a3, b3, rfl, t3, a4, b4, rfl, t4, a5, b5, rfl, t5, rfl⟩ : ∃ a1 b1, cs = a1 ++ b1 ∧ TyL TY (n + 1) 3 a1 ∧ ∃ a2 b2, b1 = a2 ++ b2 ∧ TyL TY (n + 1) 3 a2 ∧ ∃ a3 b3, b2 = a3 ++ b3 ∧ TyL TY (n + 1) 3 a3 ∧ ∃ a4 b4, b3 = a4 ++ b4 ∧ TyL TY (n + 1) 9 a4 ∧ ∃ a5 b5, b4 = a5 ++ b5 ∧ TyL TY (n + 1) 23 a5 ∧ b5 = [] := h
    obtain ⟨i1, rfl, _⟩ : ∃ i, a1 = [.int .i64 i] ∧ (Lit.int .i64 i).wf = true := t1
    obtain ⟨i2, rfl, _⟩ : ∃ i, a2 = [.int .i64 i] ∧ (Lit.int .i64 i).wf = true := t2
    obtain ⟨i3, rfl, _⟩ : ∃ i, a3 = [.int .i64 i] ∧ (Lit.int .i64 i).wf = true := t3
    obtain ⟨s, rfl, hs⟩ : ∃ s, a4 = [.str s] ∧ s.length ≤ maxLen := t4
    obtain ⟨rows, rfl, hl, hr⟩ : ∃ rows, a5 = [Cell.sl rows] ∧ rows.length ≤ maxLen ∧ ∀ r ∈ rows, TyL TY n 25 r := t5
    obtain ⟨l, rfl, ho⟩ := rows_map (f := encX) (p := OkE) fun r hr' => exp_of n (hr r hr')
    refine ⟨.mk i1 i2 i3 s l, ?_, .mk (by unfold maxLen at hs; omega) (by simp only [List.length_map] at hl; unfold maxLen at hl; omega) ho⟩
    have := aE_mk i1 i2 i3 s l
    injection this with this
    exact this.symm
theorem let_of : ∀ (n : Nat) {cs : List Cell}, TyL TY n 56 cs → ∃ x : Let, cs = encL x ∧ OkE x.body
  | 0, cs, h => h.elim
  | 1, cs, h => by
    obtain ⟨a1, b1, rfl, t1, -⟩ : ∃ a1 b1, cs = a1 ++ b1 ∧ TyL TY 0 9 a1 ∧ True := by
      obtain ⟨a1, b1, h1, h2, _⟩ := h; exact ⟨a1, b1, h1, h2, trivial⟩
    exact t1.elim
  | n + 2, cs, h => by
    obtain ⟨a1, b1, rfl, t1, a2, b2, rfl, t2, rfl⟩ : ∃ a1 b1, cs = a1 ++ b1 ∧ TyL TY (n + 1) 9 a1 ∧ ∃ a2 b2, b1 = a2 ++ b2 ∧ TyL TY (n + 1) 25 a2 ∧ b2 = [] := h
    obtain ⟨s, rfl, hs⟩ : ∃ s, a1 = [.str s] ∧ s.length ≤ maxLen := t1
    obtain ⟨e, rfl, he⟩ := exp_of _ t2
    exact ⟨⟨s, e⟩, rfl, he⟩
theorem lets_in : ∀ (n : Nat) {c : Cell}, TyL TY n 22 [c] → ∃ l : List Let, c = .sl (l.map encL) ∧ LIn l
  | 0, c, h => h.elim
  | n + 1, c, h => by
    obtain ⟨rows, h1, hl, h3⟩ : ∃ rows, [c] = [Cell.sl rows] ∧ rows.length ≤ maxLen ∧ ∀ r ∈ rows, TyL TY n 56 r := h
    obtain rfl := (List.cons.inj h1).1
    obtain ⟨l, rfl, ho⟩ := rows_map (f := encL) (p := fun y => OkE y.body) fun r hr => let_of n (h3 r hr)
    exact ⟨l, rfl, by simp only [List.length_map] at hl; unfold maxLen at hl; omega, ho⟩
theorem int_of1 {n : Nat} {cs : List Cell} (h : TyL TY (n + 1) 3 cs) : ∃ i : Int, cs = Lf.encI i ∧ True := by
  obtain ⟨i, rfl, _⟩ : ∃ i, cs = [.int .i64 i] ∧ (Lit.int .i64 i).wf = true := h
  exact ⟨i, rfl, trivial⟩
structure BV where
  s : Int
  l : List Int
abbrev encBV (b : BV) : List Cell := [.int .i64 b.s, .sl (b.l.map Lf.encI)]
theorem big_of {n : Nat} {cs : List Cell} (h : TyL TY (n + 3) 38 cs) : ∃ b : BV, cs = encBV b ∧ b.l.length ≤ 9223372036854775807 := by
  obtain ⟨a1, b1, rfl, t1, a2, b2, rfl, t2, rfl⟩ : ∃ a1 b1, cs = a1 ++ b1 ∧ TyL TY (n + 2) 3 a1 ∧ ∃ a2 b2, b1 = a2 ++ b2 ∧ TyL TY (n + 2) 36 a2 ∧ b2 = [] := h
  obtain ⟨s, rfl, _⟩ : ∃ i, a1 = [.int .i64 i] ∧ (Lit.int .i64 i).wf = true := t1
  obtain ⟨rows, rfl, hl, h3⟩ : ∃ rows, a2 = [Cell.sl rows] ∧ rows.length ≤ maxLen ∧ ∀ r ∈ rows, TyL TY (n + 1) 3 r := t2
  obtain ⟨l, rfl, _⟩ := rows_map (f := Lf.encI) (p := fun _ => True) fun r hr => int_of1 (h3 r hr)
  exact ⟨⟨s, l⟩, rfl, by simp only [List.length_map] at hl; unfold maxLen at hl; omega⟩
theorem fq_of {n : Nat} {cs : List Cell} (h : TyL TY (n + 4) 40 cs) : ∃ f : Fq, cs = encF f ∧ FqOk f := by
  obtain ⟨a1, b1, rfl, t1, a2, b2, rfl, t2, rfl⟩ : ∃ a1 b1, cs = a1 ++ b1 ∧ TyL TY (n + 3) 38 a1 ∧ ∃ a2 b2, b1 = a2 ++ b2 ∧ TyL TY (n + 3) 38 a2 ∧ b2 = [] := h
  obtain ⟨x, rfl, hx⟩ := big_of t1
  obtain ⟨y, rfl, hy⟩ := big_of t2
  exact ⟨⟨x.s, x.l, y.s, y.l⟩, rfl, hx, hy⟩
theorem fqs_of {n : Nat} {cs : List Cell} (h : TyL TY (n + 5) 27 cs) : ∃ l : List Fq, cs = [.sl (l.map encF)] ∧ l.length ≤ 9223372036854775807 ∧ ∀ q ∈ l, FqOk q := by
  obtain ⟨rows, rfl, hl, h3⟩ : ∃ rows, cs = [Cell.sl rows] ∧ rows.length ≤ maxLen ∧ ∀ r ∈ rows, TyL TY (n + 4) 40 r := h
  obtain ⟨l, rfl, hq⟩ := rows_map (f := encF) (p := fun f => FqOk f) fun r hr => fq_of (n := n) (h3 r hr)
  exact ⟨l, rfl, by simp only [List.length_map] at hl; unfold maxLen at hl; omega, hq⟩
theorem str_of {n : Nat} {cs : List Cell} (h : TyL TY (n + 1) 9 cs) : ∃ x : Str, cs = encS x ∧ True := by
  obtain ⟨s, rfl, _⟩ : ∃ s, cs = [.str s] ∧ s.length ≤ maxLen := h
  exact ⟨s, rfl, trivial⟩
theorem strs_of {n : Nat} {cs : List Cell} (h : TyL TY (n + 2) 26 cs) : ∃ l : List Str, cs = [.sl (l.map encS)] ∧ l.length ≤ 9223372036854775807 := by
  obtain ⟨rows, rfl, hl, h3⟩ : ∃ rows, cs = [Cell.sl rows] ∧ rows.length ≤ maxLen ∧ ∀ r ∈ rows, TyL TY (n + 1) 9 r := h
  obtain ⟨l, rfl, _⟩ := rows_map (f := encS) (p := fun _ => True) fun r hr => str_of (n := n) (h3 r hr)
  exact ⟨l, rfl, by simp only [List.length_map] at hl; unfold maxLen at hl; omega⟩
theorem env_in {cs : List Cell} (h : TyL TY 6 29 cs) : ∃ v : EnvV, cs = encEnv v ∧ v.Len := by
  obtain ⟨a1, b1, rfl, t1, a2, b2, rfl, t2, a3, b3, rfl, t3, a4, b4, rfl, t4, rfl⟩ : ∃ a1 b1, cs = a1 ++ b1 ∧ TyL TY 5 26 a1 ∧ ∃ a2 b2, b1 = a2 ++ b2 ∧ TyL TY 5 27 a2 ∧ ∃ a3 b3, b2 = a3 ++ b3 ∧ TyL TY 5 26 a3 ∧ ∃ a4 b4, b3 = a4 ++ b4 ∧ TyL TY 5 27 a4 ∧ b4 = [] := h
  obtain ⟨N, rfl, n1⟩ := strs_of (n := 3) t1
  obtain ⟨V, rfl, n2, o2⟩ := fqs_of (n := 0) t2
  obtain ⟨I, rfl, n3⟩ := strs_of (n := 3) t3
  obtain ⟨R, rfl, n4, o4⟩ := fqs_of (n := 0) t4
  exact ⟨⟨N, V, I, R⟩, rfl, ⟨n1, n2, n3, n4, o2, o4⟩⟩
end Go.Proofs.YtjedkgogjehigaaGreat
end
section
namespace Go.Proofs.YtjedkgogjehigaaGreat
open Lf Go Go.ChangeShapes Go.WideShapes Go.ChangeAt Go.RowKit
namespace TellsRow
theorem own : ownKnob Tryz.prog.godebug = none := by kernel_rfl
theorem laidOut : laidOutB Tryz.prog = true := by kernel_rfl
set_option maxRecDepth 100000 in
theorem lifted (os : Os) (started : os.Started) (H : Type) (enc : TypeId × Value → H) :
    ReturnsInHanded {} Tryz.checked os 3 .any (Rows.evalTellsSpec.pre6 enc Tryz.prog Tryz.f3 Rows.evalTellsRow.domain false) (Rows.evalTellsSpec.post enc Tryz.prog Tryz.f3 false true false false) := by
  refine returnsInHanded_of_change (C := Tryz.checked) own started (by kernel_rfl) Tryz.func3
    (ChangeSpec.witness6 (enc := enc) (C := Tryz.checked) false ⟨#[], #[.slice none 0 0, .agg #[.int .i64 0, .int .i64 0, .int .i64 0, .string ⟨#[]⟩, .slice none 0 0], .agg #[.slice none 0 0, .slice none 0 0, .slice none 0 0, .slice none 0 0]], []⟩ 8 (by kernel_rfl) (by kernel_rfl) (by kernel_rfl) (by kernel_rfl)) ?_
  intro W base args ds gs before hval0 hW hcnd _
  have hval : ∀ (j : Nat) t v, Tryz.f3.params[j]? = some t → args[j]? = some v → Value.okWide Tryz.prog W .any base t v := hval0
  have hW' := hW
  obtain ⟨p, q, hA0, hV, rfl, hfz, hnd⟩ := hW
  have hA : DataW.TrodAll enc Tryz.prog W 0 (fun _ => true) true Tryz.f3.params.toList args.toList ds p := hA0
  rw [Tryz.params3] at hA hval
  obtain ⟨v0, vs0, d0, ds0, p0, q0, hargs, rfl, rfl, h0, r0⟩ := trodAll_cons hA
  obtain ⟨v1, vs1, d1, ds1, p1, q1, rfl, rfl, rfl, h1, r1⟩ := trodAll_cons r0
  obtain ⟨v2, vs2, d2, ds2, p2, q2, rfl, rfl, rfl, h2, r2⟩ := trodAll_cons r1
  obtain ⟨rfl, rfl, rfl⟩ := trodAll_nil r2
  obtain rfl : args = #[v0, v1, v2] := by cases args; simp_all
  obtain ⟨rfl, rfl⟩ := trodVars_none hV
  have k0 := h0
  have lt0 : ∀ x ∈ p0, x.block < W.heap.size := by obtain ⟨m, hm⟩ := k0; exact DataW.trod_lt m _ _ _ hm
  obtain ⟨n0, c0, rel0, ty0⟩ := readR_slice TYok (S := [22,56,25,23,9,3]) (by kernel_rfl) (by simp) Tryz.underlying22 (hval 0 22 v0 rfl rfl) h0
  obtain ⟨a0, rfl, w0⟩ := lets_in _ ty0
  have k1 := h1
  have lt1 : ∀ x ∈ p1, x.block < W.heap.size := by obtain ⟨m, hm⟩ := k1; exact DataW.trod_lt m _ _ _ hm
  obtain ⟨n1, c1, rel1, ty1⟩ := readR_struct TYok (S := [25,23,9,3]) (by kernel_rfl) (by simp) Tryz.underlying25 (hval 1 25 v1 rfl rfl) h1
  obtain ⟨a1, rfl, w1⟩ := exp_of _ ty1
  have k2 := h2
  have lt2 : ∀ x ∈ p2, x.block < W.heap.size := by obtain ⟨m, hm⟩ := k2; exact DataW.trod_lt m _ _ _ hm
  obtain ⟨c2, rel2, ty2⟩ := read_struct TYok 6 Tryz.underlying29 (by kernel_rfl) (hval 2 29 v2 rfl rfl) h2
  obtain ⟨a2, rfl, w2⟩ := env_in ty2
  clear hA0 hval0
  have hc := (tells_ok w0 a1 w1 a2 w2).calls (allΦ W) W #[v0, v1, v2] (fits_all W)
    (ArgsRel.of (ArgsL.cons rel0 (ArgsL.cons rel1 (ArgsL.cons rel2 ArgsL.nil))))
  refine hc.mono fun e W' ⟨v, Φ', he, hv, _, _, _, bel⟩ => ?_
  subst he
  obtain rfl : v = .bool true := AVRel.bool hv
  exact ⟨_, rfl, _, _, _, [], _, [], hW', trodAll_mk1 (shut_bool Tryz.underlying4 _), (trodAll_cons_mk (Below.trod laidOut (by kernel_rfl) (of_decide_eq_true (by kernel_rfl)) k0 bel lt0) (trodAll_cons_mk (Below.trod laidOut (by kernel_rfl) (of_decide_eq_true (by kernel_rfl)) k1 bel lt1) (trodAll_cons_mk (Below.trod laidOut (by kernel_rfl) (of_decide_eq_true (by kernel_rfl)) k2 bel lt2) trodAll_mk0))), rfl, bel.frame _, fun h => by cases h⟩
theorem over : Rows.evalTellsRow.holds Tryz.pinned (OpenSpec.ofChange Rows.evalTellsSpec) :=
  OpenClaim.holds_of_wide 3 Tryz.f3 rfl rfl rfl rfl rfl rfl rfl ⟨rfl, rfl, rfl, rfl, rfl⟩ rfl rfl rfl rfl rfl (by kernel_rfl) Tryz.func3 (by kernel_rfl)
    (of_decide_eq_true (by kernel_rfl)) (by unfold Func.isWrapper; first | (rw [if_pos (by decide +kernel)]; kernel_rfl) | (rw [if_neg (by decide +kernel)]; exact ⟨rfl, rfl⟩))
    (fun os started H enc _ => lifted os started H enc)
end TellsRow
theorem evalTells_proved : Rows.EvalTellsSaid := TellsRow.over
end Go.Proofs.YtjedkgogjehigaaGreat
end
