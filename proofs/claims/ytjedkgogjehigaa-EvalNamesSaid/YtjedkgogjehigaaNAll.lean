/-
  EvalNames: the row: what came in is read, the contract of the function gives true, and what came in stands.
-/
import Derived.Test.YtjedkgogjehigaaNS11
import Derived.Test.YtjedkgogjehigaaNS04
import Derived.Test.YtjedkgogjehigaaNS10
section
set_option linter.unusedVariables false
set_option linter.unusedSimpArgs false
set_option maxHeartbeats 8000000
set_option linter.unusedSectionVars false
namespace Go.Proofs.Ytjedkgogjehigaa
open Lf Go
attribute [local irreducible] PureOp EffOp Ev RG W Then InBlock Lf.Fin nth App InitE Pick EvL EvD EvP EvR ResL Lf.Lex SubR SubBR EvC FinO FinM ResM ResD FinS val pw digs trimL
section
instance (x : Int) : Decidable (okZ x) := by unfold okZ; infer_instance
instance (a b : Rat) : Decidable (divOk a b) := by unfold divOk; infer_instance
instance (a b c d : Int) : Decidable (sumOk a b c d) := by unfold sumOk; infer_instance
instance (a b : Rat) : Decidable (addOk a b) := by unfold addOk; infer_instance
instance : DecidableEq Rs := fun a b => match a, b with
  | .ok x, .ok y => if h : x = y then isTrue (by rw [h]) else isFalse (fun e => h (by injection e))
  | .err x, .err y => if h : x = y then isTrue (by rw [h]) else isFalse (fun e => h (by injection e))
  | .ok _, .err _ => isFalse (fun e => by injection e)
  | .err _, .ok _ => isFalse (fun e => by injection e)
theorem bin4 (a b : Rat) : binF 4 a b = addR a b := by unfold binF; rw [if_pos rfl]
theorem bin7 (a b : Rat) : binF 7 a b = divR a b := by unfold binF; rw [if_neg (by omega), if_neg (by omega), if_neg (by omega), if_pos rfl]
theorem bin9 (a b : Rat) : binF 9 a b = .ok (if cmpR a b ≤ 0 then b else a) := by unfold binF; rw [if_neg (by omega), if_neg (by omega), if_neg (by omega), if_neg (by omega), if_neg (by omega), if_pos rfl]
theorem bin10 (a b : Rat) : binF 10 a b = .ok (one01 (decide (cmpR a b < 0))) := by unfold binF; rw [if_neg (by omega), if_neg (by omega), if_neg (by omega), if_neg (by omega), if_neg (by omega), if_neg (by omega), if_pos rfl]
theorem divR_yes {a b : Rat} (h0 : b.num ≠ 0) (h : divOk a b) : divR a b = .ok (a / b) := by unfold divR; rw [if_neg h0, if_pos h]
theorem divR_zero {a b : Rat} (h0 : b.num = 0) : divR a b = .err 15 := by unfold divR; rw [if_pos h0]
theorem addR_yes {a b : Rat} (h : addOk a b) : addR a b = .ok (a + b) := by unfold addR; rw [if_pos h]
theorem nth0 {α : Type} [Inhabited α] (x : α) (l : List α) : nth (x :: l) 0 = x := by rw [nth]; rfl
theorem nth1 {α : Type} [Inhabited α] (x y : α) (l : List α) : nth (x :: y :: l) 1 = y := by rw [nth]; rfl
theorem nth2 {α : Type} [Inhabited α] (x y z : α) (l : List α) : nth (x :: y :: z :: l) 2 = z := by rw [nth]; rfl
variable {lets : List Let} {en : EnvQ} {vs : List Rs}
theorem ev_num (n u : Int) (s : Str) (l : List Exp) : evF lets en vs (.mk 0 n u s l) = .ok (if u = 2 then Rat.divInt n 1000 else Rat.divInt n 1) := by rw [evF_mk, stepF, if_pos rfl]
theorem ev_name (n u : Int) (s : Str) (l : List Exp) : evF lets en vs (.mk 1 n u s l) = lookN lets vs s := by rw [evF_mk, stepF, if_neg (by omega), if_pos rfl]
theorem ev_fact (n u : Int) (s : Str) (l : List Exp) : evF lets en vs (.mk 2 n u s l) = lookF en.names en.vals s := by rw [evF_mk, stepF, if_neg (by omega), if_neg (by omega), if_pos rfl]
theorem ev_rate (n u : Int) (s : Str) (l : List Exp) : evF lets en vs (.mk 3 n u s l) = lookF en.iss en.rates s := by rw [evF_mk, stepF, if_neg (by omega), if_neg (by omega), if_neg (by omega), if_pos rfl]
theorem ev_two {op : Int} {a b : Exp} {p q : Rat} (h : 4 ≤ op ∧ op ≤ 11) (ha : evF lets en vs a = .ok p) (hb : evF lets en vs b = .ok q) : evF lets en vs (nodeE op a b) = binF op p q := by
  rw [nodeE, evF_mk, stepF, if_neg (by omega), if_neg (by omega), if_neg (by omega), if_neg (by omega), List.map_cons, List.map_cons, List.map_nil, nth0, ha]
  dsimp only
  rw [if_neg (by omega), if_neg (by omega), if_neg (by omega), nth1, hb]
theorem ev_if {c a b : Exp} : evF lets en vs (.mk 15 0 0 [] [c, a, b]) = match evF lets en vs c with | .err e => .err e | .ok w => if sgn w.num = 0 then evF lets en vs b else evF lets en vs a := by
  rw [evF_mk, stepF, if_neg (by omega), if_neg (by omega), if_neg (by omega), if_neg (by omega), List.map_cons, List.map_cons, List.map_cons, List.map_nil, nth0]
  cases evF lets en vs c with
  | err e => rfl
  | ok w => dsimp only; rw [if_neg (by omega), if_pos rfl, nth1, nth2]
abbrev kLever : Str := [108, 101, 118, 101, 114]
abbrev kDebt : Str := [100, 101, 98, 116]
abbrev kCash : Str := [99, 97, 115, 104]
abbrev fDebt : Exp := .mk 2 0 0 kDebt []
abbrev fCash : Exp := .mk 2 0 0 kCash []
def lev : Exp := nodeE 7 fDebt fCash
def lets0 : List Let := [⟨kLever, lev⟩]
abbrev nLever : Exp := .mk 1 0 0 kLever []
def x1 : Exp := nodeE 10 nLever (.mk 0 4 0 [] [])
def x2 : Exp := nodeE 4 (.mk 3 0 0 [97] []) (.mk 0 25 2 [] [])
def x3 : Exp := .mk 1 0 0 kCash []
def zeroE : Exp := nodeE 7 (.mk 0 1 0 [] []) (.mk 0 0 0 [] [])
def max2 : Exp := nodeE 9 nLever (.mk 0 2 0 [] [])
def x4 : Exp := .mk 15 0 0 [] [.mk 0 0 4 [] [], zeroE, max2]
theorem okLeaf {op n u : Int} {s : Str} (h : s.length ≤ 9223372036854775807) : OkE (.mk op n u s []) := .mk h (by simp) (fun x hx => by cases hx)
theorem ok_lev : OkE lev := okNode (okLeaf (by decide)) (okLeaf (by decide))
theorem ok_x1 : OkE x1 := okNode (okLeaf (by decide)) (okLeaf (by decide))
theorem ok_x2 : OkE x2 := okNode (okLeaf (by decide)) (okLeaf (by decide))
theorem ok_x3 : OkE x3 := okLeaf (by decide)
theorem ok_zero : OkE zeroE := okNode (okLeaf (by decide)) (okLeaf (by decide))
theorem ok_x4 : OkE x4 := .mk (by decide) (by decide) (fun x hx => by
  rcases List.mem_cons.1 hx with rfl | hx
  · exact okLeaf (by decide)
  rcases List.mem_cons.1 hx with rfl | hx
  · exact ok_zero
  rw [List.mem_singleton.1 hx]
  exact okNode (okLeaf (by decide)) (okLeaf (by decide)))
theorem stats : statF lev = true ∧ statF x1 = true ∧ statF x2 = true ∧ statF x3 = true ∧ statF zeroE = true ∧ statF x4 = true := by decide +kernel
theorem lets0_ok : LetsOk lets0 := ⟨by decide, fun y hy => by rw [List.mem_singleton.1 hy]; exact ⟨stats.1, ok_lev⟩⟩
theorem lev_val : evF lets0 offQ [] lev = .ok (Rat.divInt 3 1) := by
  have e1 : evF lets0 offQ [] fDebt = .ok rN := by rw [ev_fact]; decide +kernel
  have e2 : evF lets0 offQ [] fCash = .ok rM := by rw [ev_fact]; decide +kernel
  rw [lev, ev_two (by omega) e1 e2, bin7]
  rw [divR_yes (by decide +kernel) (by decide +kernel)]
  decide +kernel
theorem tab1 : tabF lets0 offQ 1 = [.ok (Rat.divInt 3 1)] := by
  rw [tabF, tabF, List.nil_append, show nth lets0 0 = ⟨kLever, lev⟩ from nth0 _ _, lev_val]
theorem name_val : evF lets0 offQ (tabF lets0 offQ 1) nLever = .ok (Rat.divInt 3 1) := by
  rw [ev_name, tab1]; decide +kernel
theorem val1 : valF lets0 offQ lets0.length x1 = .ok (Rat.divInt 1 1) := by
  rw [show lets0.length = 1 from rfl, valF, x1, ev_two (by omega) name_val (ev_num ..), bin10]
  decide +kernel
theorem val2 : valF lets0 offQ lets0.length x2 = .ok (Rat.divInt 3 40) := by
  have e1 : evF lets0 offQ (tabF lets0 offQ 1) (.mk 3 0 0 [97] []) = .ok rA := by rw [ev_rate]; decide +kernel
  rw [show lets0.length = 1 from rfl, valF, x2, ev_two (by omega) e1 (ev_num ..), bin4]
  rw [addR_yes (by decide +kernel)]
  decide +kernel
theorem val3 : valF lets0 offQ lets0.length x3 = .err 14 := by
  rw [show lets0.length = 1 from rfl, valF, x3, ev_name, tab1]
  decide +kernel
theorem val5 : valF lets0 offQ lets0.length zeroE = .err 15 := by
  rw [show lets0.length = 1 from rfl, valF, zeroE, ev_two (by omega) (ev_num ..) (ev_num ..), bin7]
  exact divR_zero (by decide +kernel)
theorem val4 : valF lets0 offQ lets0.length x4 = .ok (Rat.divInt 3 1) := by
  rw [show lets0.length = 1 from rfl, valF, x4, ev_if, ev_num]
  show (if _ then _ else _) = _
  rw [if_pos (by decide +kernel), max2, ev_two (by omega) name_val (ev_num ..), bin9]
  decide +kernel
end
end Go.Proofs.Ytjedkgogjehigaa
end
section
set_option linter.unusedVariables false
set_option linter.unusedSimpArgs false
set_option maxHeartbeats 8000000
set_option linter.unusedSectionVars false
namespace Go.Proofs.Ytjedkgogjehigaa
open Lf Go
attribute [local irreducible] PureOp EffOp Ev RG W Then InBlock Lf.Fin nth App InitE Pick EvL EvD EvP EvR ResL Lf.Lex SubR SubBR EvC FinO FinM ResM ResD FinS val pw digs trimL
section
attribute [local irreducible] sgn mag gcdZ quoZ remZ fullZ fullE
theorem leaf_sub {op n u : Int} {s : Str} : PSub (.agg [.int .i64 op, .int .i64 n, .int .i64 u, .str s, .slnil]) (.agg [.int .i64 op, .int .i64 n, .int .i64 u, .str s, .sl []]) := ⟨.refl _, .refl _, .refl _, .refl _, .nil, trivial⟩
theorem Q_leaf {P : Program} {G : Ghost} {A : St} {o : Oper} {p : Prop} {op n u : Int} {s : Str} (h : PureOp P G A o p (.pv (.agg [.int .i64 op, .int .i64 n, .int .i64 u, .str s, .slnil]))) : PureOp P G A o p (.pv (.agg [.int .i64 op, .int .i64 n, .int .i64 u, .str s, .sl []])) :=
  PureOp.conv h fun Φ β a w hs Φ' v h => by
    have h' : PRel Φ' v (.agg [.int .i64 op, .int .i64 n, .int .i64 u, .str s, .slnil]) := h
    exact h'.sub leaf_sub
theorem vcall {e : Exp} {R : Rs} (hst : statF e = true) (he : OkE e) (h : valF lets0 offQ lets0.length e = R) : ACalls Try.prog 8 [xV lets0, aE e, vV offQ.V] (resP R) := by
  rw [← h]
  exact value_yes lets0_ok offQ_ok hst he
theorem aE_leaf (op n u : Int) (s : Str) : aE (.mk op n u s []) = .agg [.int .i64 op, .int .i64 n, .int .i64 u, .str s, .sl []] := aE_mk ..
theorem small_ok : ACalls Try.prog 6 [] (.pv (cB true)) := by
  obtain ⟨t1, t2, t3, t4, t5, t6⟩ := stats
  have v1 := vcall t2 ok_x1 val1
  have v2 := vcall t3 ok_x2 val2
  have v3 := vcall t4 ok_x3 val3
  have v4 := vcall t6 ok_x4 val4
  have v5 := vcall t5 ok_zero val5
  have n1 : ACalls Try.prog 15 [cI 7, aE fDebt, aE fCash] (.pv (aE lev)) := node_ok 7 fDebt fCash
  have n2 : ACalls Try.prog 15 [cI 10, aE nLever, aE (.mk 0 4 0 [] [])] (.pv (aE x1)) := node_ok 10 _ _
  have n3 : ACalls Try.prog 15 [cI 4, aE (.mk 3 0 0 [97] []), aE (.mk 0 25 2 [] [])] (.pv (aE x2)) := node_ok 4 _ _
  have n4 : ACalls Try.prog 15 [cI 7, aE (.mk 0 1 0 [] []), aE (.mk 0 0 0 [] [])] (.pv (aE zeroE)) := node_ok 7 _ _
  have n5 : ACalls Try.prog 15 [cI 9, aE nLever, aE (.mk 0 2 0 [] [])] (.pv (aE max2)) := node_ok 9 _ _
  have o := office_ok
  have en := env_ok offQ.V
  have f1 := of_ok 1 1 (ix (by omega)) (ix (by omega)) (by omega)
  have f2 := of_ok 3 40 (ix (by omega)) (ix (by omega)) (by omega)
  have f3 := of_ok 3 1 (ix (by omega)) (ix (by omega)) (by omega)
  have q1 := sameV_ok (.ok (Rat.divInt 1 1)) (okC (by omega) (by omega) (by omega))
  have q2 := sameV_ok (.ok (Rat.divInt 3 40)) (okC (by omega) (by omega) (by omega))
  have q3 := sameV_ok (.ok (Rat.divInt 3 1)) (okC (by omega) (by omega) (by omega))
  replace q1 : ACalls Try.prog 12 [zF (Rat.divInt 1 1), zF (Rat.divInt 1 1)] (.pv (cB true)) := q1
  replace q2 : ACalls Try.prog 12 [zF (Rat.divInt 3 40), zF (Rat.divInt 3 40)] (.pv (cB true)) := q2
  replace q3 : ACalls Try.prog 12 [zF (Rat.divInt 3 1), zF (Rat.divInt 3 1)] (.pv (cB true)) := q3
  replace v1 : ACalls Try.prog 8 _ (.tup [zF (Rat.divInt 1 1), cI 0]) := v1
  replace v2 : ACalls Try.prog 8 _ (.tup [zF (Rat.divInt 3 40), cI 0]) := v2
  replace v3 : ACalls Try.prog 8 _ (.tup [zF0, cI 14]) := v3
  replace v4 : ACalls Try.prog 8 _ (.tup [zF (Rat.divInt 3 1), cI 0]) := v4
  replace v5 : ACalls Try.prog 8 _ (.tup [zF0, cI 15]) := v5
  rw [show xV lets0 = .agg [.str [], .str [], .int .i64 0, .int .i64 0, .int .i64 0, .int .i64 0, .int .i64 0, .int .i64 0, .int .i64 0, .int .i64 0, .sl [.str kLever :: encX lev], .int .i64 0, .int .i64 0, .int .i64 0, .str [], .slnil, .int .i64 0, .slnil, .slnil, .int .i64 0, .slnil, .int .i64 0, .int .i64 0, .int .i64 0, .int .i64 0] from rfl] at v1 v2 v3 v4 v5
  rw [show aE x4 = .agg [.int .i64 15, .int .i64 0, .int .i64 0, .str [], .sl [encX (.mk 0 0 4 [] []), encX zeroE, encX max2]] from aE_mk ..] at v4
  rw [show aE x3 = .agg [.int .i64 1, .int .i64 0, .int .i64 0, .str kCash, .sl []] from aE_mk ..] at v3
  rw [aE_leaf, aE_leaf] at n1 n2 n3 n4 n5
  rw [show encX (.mk 0 0 4 [] []) = [.int .i64 0, .int .i64 0, .int .i64 4, .str [], .sl []] from rfl] at v4
  change ACalls Try.prog 15 _ (.pv (.agg (encX lev))) at n1
  change ACalls Try.prog 15 _ (.pv (.agg (encX x1))) at n2
  change ACalls Try.prog 15 _ (.pv (.agg (encX x2))) at n3
  change ACalls Try.prog 15 _ (.pv (.agg (encX zeroE))) at n4
  change ACalls Try.prog 15 _ (.pv (.agg (encX max2))) at n5
  generalize offQ.V = V at *
  obtain ⟨V1, V2, V3, V4⟩ := V
  generalize Rat.divInt 1 1 = r1 at *
  generalize Rat.divInt 3 40 = r2 at *
  generalize Rat.divInt 3 1 = r3 at *
  have sp : ∀ e : Exp, ∃ (a b c : Int) (s : Str) (l : List (List Cell)), encX e = [.int .i64 a, .int .i64 b, .int .i64 c, .str s, .sl l] := fun e => ⟨_, _, _, _, _, rfl⟩
  obtain ⟨l1, l2, l3, l4, l5, hlev⟩ := sp lev
  obtain ⟨a1, a2, a3, a4, a5, hx1⟩ := sp x1
  obtain ⟨b1, b2, b3, b4, b5, hx2⟩ := sp x2
  obtain ⟨c1, c2, c3, c4, c5, hz⟩ := sp zeroE
  obtain ⟨d1, d2, d3, d4, d5, hm⟩ := sp max2
  rw [show aE x1 = .agg (encX x1) from rfl, hx1] at v1
  rw [show aE x2 = .agg (encX x2) from rfl, hx2] at v2
  rw [show aE zeroE = .agg (encX zeroE) from rfl, hz] at v5
  rw [hlev] at n1 v1 v2 v3 v4 v5
  rw [hx1] at n2
  rw [hx2] at n3
  rw [hz] at n4 v4
  rw [hm] at n5 v4
  clear sp hlev hx1 hx2 hz hm t1 t2 t3 t4 t5 t6
  refine ACalls.of_W (qs := [cB true]) [0] 111 Try.func6 (by kernel_rfl) rfl rfl rfl fun G => ?_
  refine W.initA (hw := ?_)
  repeat' (first | ((first | apply U_ | (apply Ug_; exact rfl; exact rfl) | (apply Ugq_; exact rfl; exact rfl) | apply Lex.u | (apply Lex.g; exact rfl; exact rfl) | (apply Lex.gq; exact rfl; exact rfl)); (first | (apply Q_leaf; exact QX.Build TYok) | (apply Q_litD TYok; apply EvR.cons Ev.auto; (repeat (first | exact EvR.nil | apply EvR.cons Ev.auto)); exact rfl; exact rfl; exact rfl; exact rfl; exact rfl; exact rfl) | exact QX.B TYok | exact QX.Ext TYok | exact QX.Build TYok | exact QCd (n1) | exact QCd (n2) | exact QCd (n3) | exact QCd (n4) | exact QCd (n5) | exact QCd (o) | exact QCd (en) | exact QCd (v1) | exact QCd (v2) | exact QCd (v3) | exact QCd (v4) | exact QCd (v5) | exact QCd (f1) | exact QCd (f2) | exact QCd (f3) | exact QCd (q1) | exact QCd (q2) | exact QCd (q3)); exact rfl) | refine SX.Alloc TYok (h := ?_) | refine SX.Store TYok (h := ?_) | refine SX.Lit TYok (h := ?_) | refine SC ?_ | (apply S_isnil TYok; exact rfl; exact rfl; exact rfl; exact Ev.auto; intro bn hnil) | (apply RG.gT; exact rfl; exact rfl; (first | assumption | decide)) | (apply RG.gF; exact rfl; exact rfl; (first | assumption | decide | (rw [ne_eq, Bool.not_eq_true]; assumption) | (rw [ne_eq, Bool.not_eq_false]; assumption)); exact rfl) | apply LexS.nil | (apply LexS.f; exact rfl; (first | (apply FreshV.alloc TYok; exact rfl; exact rfl; exact rfl; exact rfl) | (apply FreshV.lit TYok; (repeat (first | exact EvR.nil | apply EvR.cons Ev.auto)); exact rfl; exact rfl; exact rfl; exact rfl; exact rfl; exact rfl; exact rfl; exact rfl; exact rfl) | (apply FreshV.box; exact Ev.auto; exact rfl; exact rfl; exact rfl)); exact rfl; exact rfl; exact rfl) | (apply LexS.s; exact rfl; exact rfl; (apply StoreV.mk TYok; exact Ev.auto; exact Ev.auto; exact rfl; exact rfl; exact rfl; exact rfl; exact rfl)) | ((first | apply LexS.u | (apply LexS.g; exact rfl; exact rfl) | (apply LexS.gq; exact rfl; exact rfl)); (repeat (first | (apply NB.cons; exact rfl) | exact NB.nil rfl)); (first | (apply Q_leaf; exact QX.Build TYok) | (apply Q_litD TYok; apply EvR.cons Ev.auto; (repeat (first | exact EvR.nil | apply EvR.cons Ev.auto)); exact rfl; exact rfl; exact rfl; exact rfl; exact rfl; exact rfl) | exact QX.B TYok | exact QX.Ext TYok | exact QX.Build TYok | exact QCd (n1) | exact QCd (n2) | exact QCd (n3) | exact QCd (n4) | exact QCd (n5) | exact QCd (o) | exact QCd (en) | exact QCd (v1) | exact QCd (v2) | exact QCd (v3) | exact QCd (v4) | exact QCd (v5) | exact QCd (f1) | exact QCd (f2) | exact QCd (f3) | exact QCd (q1) | exact QCd (q2) | exact QCd (q3)); exact rfl; exact rfl; exact rfl) | (apply W.draw2 (id := 10) [0, 0, 3, 7, 15, 31, 63, 127, 255, 255, 1023, 2047, 4095, 8191, 16383, 32767, 65535] [[4], [], [77, 78], [79], [5, 80], [81, 80], [80, 82], [83], [6, 84], [84], [85, 86, 84], [84, 87], [88], [7, 89], [90, 89], [89, 91], [92]] 17 [(77, 16), (78, 0), (79, 453347182355485940514816), (80, 604462909807314587353088), (81, 1208925819614629174706208), (82, 3626777458843887524118528), (83, 6044629098073145873530880), (84, 9671406556917033397649408), (85, 19342813113834066795298880), (86, 19342813113834066795298816), (87, 135399691796838467567091712), (88, 174085318024506601157689344), (89, 309485009821345068724781056), (90, 618970019642690137449562240), (91, 1856910058928070412348686336), (92, 3094850098213450687247810560), (15, 4951760157141521099596496896)] mixed (by kernel_rfl) rfl rfl) | (apply W.draw2 (id := 11) [0, 1, 3, 7, 15, 31, 63, 63, 255, 511, 1023, 2047, 4095, 8191, 16383, 32767, 65535, 131071, 262143] [[15], [93], [9, 94], [95, 94], [94, 96], [97], [11, 98], [98], [99, 100, 98], [98, 101], [102], [12, 103], [104, 103], [103, 105], [106], [14, 107], [108, 107], [107, 109], [110]] 19 [(93, 32768), (94, 9903520314283042199192993792), (95, 19807040628566084398385988096), (96, 59421121885698253195157962752), (97, 99035203142830421991929937920), (98, 158456325028528675187087900672), (99, 316912650057057350374175803392), (100, 316912650057057350374175801344), (101, 2218388550399401452619230609408), (102, 2852213850513516153367582212096), (103, 5070602400912917605986812821504), (104, 10141204801825835211973625647104), (105, 30423614405477505635920876929024), (106, 50706024009129176059868128215040), (107, 81129638414606681695789005144064), (108, 162259276829213363391578010304512), (109, 486777830487640090174734030864384), (110, 811296384146066816957890051440640), (0, 1298074214633706907132624082305024)] mixed (by kernel_rfl) rfl rfl) | (refine W.drawS (id := 4) [0, 0, 0, 6, 14, 30, 63, 127, 255, 255, 0, 1535, 4095] [[2], [3], [], [26, 27], [], [29], [25, 28, 30], [31], [24], [24], [], [4, 32], [33]] [(11, (4, ?_)), (10, (4, ?_))] [(11, 4), (10, 4)] mixed (by kernel_rfl) rfl ?_; rotate_left 2) | (refine W.drawS (id := 5) [0, 0, 0, 6, 14, 30, 63, 127, 255, 255, 0, 1535, 4095] [[2], [], [], [36, 37], [], [39], [35, 38, 40], [41], [34], [34], [], [6, 42], [43]] [(11, (6, ?_)), (10, (6, ?_))] [(11, 6), (10, 6)] mixed (by kernel_rfl) rfl ?_; rotate_left 2) | (refine W.drawS (id := 6) [0, 0, 0, 4, 15, 31, 63, 63, 0, 383, 1023] [[2], [], [], [47], [45, 46, 48], [49], [44], [44], [], [8, 50], [51]] [(9, (8, ?_)), (8, (8, ?_))] [(9, 8), (8, 8)] mixed (by kernel_rfl) rfl ?_; rotate_left 2) | (refine W.drawS (id := 8) [0, 0, 0, 0, 0, 24, 62, 126, 56, 312, 1023, 2047, 4095, 4095, 0, 24575, 65535] [[2], [], [10], [3], [], [59, 60], [57, 58, 61], [62], [], [64], [56, 63, 65], [66], [55], [55], [], [11, 67], [68]] [(15, (11, ?_)), (14, (11, ?_))] [(15, 11), (14, 11)] mixed (by kernel_rfl) rfl ?_; rotate_left 2) | (refine W.drawS (id := 9) [0, 0, 0, 4, 15, 31, 63, 63, 0, 383, 1023] [[2], [10], [], [72], [70, 71, 73], [74], [69], [69], [], [13, 75], [76]] [(9, (13, ?_)), (8, (13, ?_))] [(9, 13), (8, 13)] mixed (by kernel_rfl) rfl ?_; rotate_left 2) | (refine W.condA (ht := fun hb => ?_) (hf := fun hb => ?_) <;> (try simp at hb) <;> (try (exfalso; omega))))
  all_goals first
    | exact Fin.ret ResL.auto
    | trace_state
end
end Go.Proofs.Ytjedkgogjehigaa
end
section
set_option linter.unusedVariables false
set_option linter.unusedSimpArgs false
set_option maxHeartbeats 8000000
set_option linter.unusedSectionVars false
namespace Go.Proofs.Ytjedkgogjehigaa
open Lf Go
attribute [local irreducible] PureOp EffOp Ev RG W Then InBlock Lf.Fin nth App InitE Pick EvL EvD EvP EvR ResL Lf.Lex SubR SubBR EvC FinO FinM ResM ResD FinS val pw digs trimL
section
def lookR (lets : List Let) (rs : List Exp) (e : Exp) (s : Str) : Exp := if (lets.take rs.length).any (nameEq s) then nth rs ((lets.take rs.length).findIdx (nameEq s)) else e
mutual
def repF (lets : List Let) (rs : List Exp) : Exp → Exp
  | .mk op n u s l => if op = 1 then lookR lets rs (.mk op n u s l) s else .mk op n u s (repFs lets rs l)
def repFs (lets : List Let) (rs : List Exp) : List Exp → List Exp
  | [] => []
  | e :: r => repF lets rs e :: repFs lets rs r
end
theorem repFs_map (lets : List Let) (rs : List Exp) : ∀ l, repFs lets rs l = l.map (repF lets rs)
  | [] => by rw [repFs]; rfl
  | e :: r => by rw [repFs, repFs_map lets rs r]; rfl
theorem repF_mk (lets : List Let) (rs : List Exp) (op n u : Int) (s : Str) (l : List Exp) : repF lets rs (.mk op n u s l) = if op = 1 then lookR lets rs (.mk op n u s l) s else .mk op n u s (l.map (repF lets rs)) := by rw [repF, repFs_map]
def repT (lets : List Let) : Nat → List Exp
  | 0 => []
  | k + 1 => repT lets k ++ [repF lets (repT lets k) (nth lets k).body]
theorem repT_len (lets : List Let) : ∀ n, (repT lets n).length = n
  | 0 => rfl
  | k + 1 => by rw [repT, List.length_append, repT_len lets k]; rfl
theorem repT_nth (lets : List Let) {i : Nat} : ∀ {n : Nat}, i < n → nth (repT lets n) i = repF lets (repT lets i) (nth lets i).body
  | 0, h => by omega
  | n + 1, h => by
    rw [repT]
    by_cases e : i = n
    · subst e
      rw [nth, List.getD_eq_getElem?_getD, List.getElem?_append_right (by rw [repT_len]; omega), repT_len, Nat.sub_self]; rfl
    · have := repT_nth lets (i := i) (n := n) (by omega)
      rw [nth, List.getD_eq_getElem?_getD] at this ⊢
      rw [List.getElem?_append_left (by rw [repT_len]; omega)]; exact this
theorem find_hit {α : Type} [Inhabited α] {l : List α} {p : α → Bool} {k : Nat} (h : k < l.length) (h1 : (l.take k).any p = false) (h2 : p (nth l k) = true) : l.any p = true ∧ l.findIdx p = k := by
  have ha : l.any p = true := List.any_eq_true.2 ⟨nth l k, nth_mem h, h2⟩
  have := fidx_hit h h1 h2
  rw [fidx, if_pos ha] at this
  exact ⟨ha, by omega⟩
theorem nth_take {α : Type} [Inhabited α] {l : List α} {n k : Nat} (h : k < n) : nth (l.take n) k = nth l k := by
  rw [nth, nth, List.getD_eq_getElem?_getD, List.getD_eq_getElem?_getD, List.getElem?_take, if_pos h]
theorem aE_split (e : Exp) : aE e = .agg [.int .i64 e.op, .int .i64 e.n, .int .i64 e.u, .str e.s, .sl (e.args.map encE)] := rfl
theorem repl_name (L : List Let) (hL : L.length ≤ 20) (n u : Int) (s : Str) (l : List Exp) (Y : Exp) (rs : List Exp)
    (hc : ∀ k, k < L.length → ACalls Try.prog 10 [.one (.sl (List.take k (L.map encL))), aE (nth L k).body] (.pv (aE (nth rs k)))) (hr : rs.length = L.length) :
    ACalls Try.prog 10 [.one (.sl (L.map encL)), .agg [.int .i64 1, .int .i64 n, .int .i64 u, .str s, .sl (l.map encX)]] (.pv (aE (if L.any (nameEq s) then nth rs (L.findIdx (nameEq s)) else .mk 1 n u s l))) := by
  generalize hW : (if L.any (nameEq s) then nth rs (L.findIdx (nameEq s)) else Exp.mk 1 n u s l) = Y
  have hm : L.any (nameEq s) = false → Y = .mk 1 n u s l := fun h => by rw [← hW, if_neg (by rw [h]; simp)]
  have hh : ∀ k, k < L.length → (L.take k).any (nameEq s) = false → (nth L k).name = s → nth rs k = Y := fun k h1 h2 h3 => by
    obtain ⟨q1, q2⟩ := find_hit h1 h2 (show nameEq s (nth L k) = true from decide_eq_true h3)
    rw [← hW, if_pos q1, q2]
  clear hW
  have ha := aE_split Y
  rw [ha]
  refine ACalls.of_M TYok (qs := [.agg [.int .i64 Y.op, .int .i64 Y.n, .int .i64 Y.u, .str Y.s, .sl (Y.args.map encE)]]) [.cell 4 25] 64 Try.func10 (by kernel_rfl) rfl rfl rfl fun G => ?_
  refine W.initA (hw := ?_)
  repeat' (first | ((first | apply U_ | apply Lex.u | (apply Lex.g; exact rfl; exact rfl) | (apply Lex.gq; exact rfl; exact rfl)); (first | (apply Q_litD TYok; (repeat (first | exact EvR.nil | apply EvR.cons Ev.auto)); exact rfl; exact rfl; exact rfl; exact rfl; exact rfl; exact rfl) | exact QX.B TYok | exact QX.Len TYok | exact QX.Idx TYok | exact QX.Build TYok | exact QX.Cut TYok); exact rfl) | refine SX.Alloc TYok (h := ?_) | refine SX.Store TYok (h := ?_) | refine SX.Lit TYok (h := ?_) | refine SX.App TYok (h := ?_) | refine SX.Box TYok (h := ?_) | refine SC ?_ | (apply S_isnil TYok; exact rfl; exact rfl; exact rfl; exact Ev.auto; intro bn hnil) | (apply W.draw2 (id := 5) [0, 0, 3, 7, 15, 0, 32, 127] [[0], [5], [17, 18], [19], [20], [3], [22], [21, 23]] 8 [(17, 1), (18, 32), (19, 393216), (20, 524288), (21, 1048576), (22, 8), (23, 4194304), (24, 10485760)] mixed (by kernel_rfl) rfl rfl) | (apply W.draw2 (id := 6) [0, 0, 3, 0, 0, 24, 56, 120, 255, 511] [[0], [5], [25, 26], [0], [5], [28, 29], [30], [31], [27, 32]] 9 [(25, 1), (26, 32), (27, 100663296), (28, 1), (29, 32), (30, 805306368), (31, 1073741824), (32, 2147483648), (33, 4429185024)] mixed (by kernel_rfl) rfl rfl) | (apply W.draw2 (id := 12) [0, 1, 0, 0, 8, 0, 56, 120, 252, 508, 1023, 2047, 4095] [[6], [51], [0], [3], [54], [7], [55, 56], [57], [53, 58], [59]] 10 [(51, 64), (52, 2251799813685248), (53, 1), (54, 8), (55, 18014398509481984), (56, 128), (57, 108086391056891904), (58, 144115188075855872), (59, 297237575406452736), (60, 576460752303423488)] mixed (by kernel_rfl) rfl rfl) | (refine W.condA (ht := fun hb => ?_) (hf := fun hb => ?_) <;> (try simp at hb) <;> (try (exfalso; omega))))
  apply W.loopP (σ := Nat) 64 [0, 3, 4] (fun k => k ≤ L.length ∧ (L.take k).any (nameEq s) = false) (fun k => [(5, vI k)]) (fun _ => [(3, ⟨25, 5, [[.int .i64 1, .int .i64 n, .int .i64 u, .str s, .sl (l.map encX)]]⟩), (4, ⟨25, 5, [[.int .i64 0, .int .i64 0, .int .i64 0, .str [], .slnil]]⟩)]) (fun k => L.length - k) (0)
  case hp => repeat (first | exact Pick.nil | apply Pick.cons rfl)
  case h0 =>
    refine ⟨by simp, ?_⟩
    exact Le.auto
  case round =>
    rintro k ⟨h1, h2⟩
    apply W.norm (by repeat (first | exact App.nil | apply App.cons))
    by_cases hk : k < L.length
    · by_cases hn : (nth L k).name = s
      · have c1 := hc k hk
        rw [hh k hk h2 hn, ha] at c1
        repeat' (first | ((first | apply U_ | apply Lex.u | (apply Lex.g; exact rfl; exact rfl) | (apply Lex.gq; exact rfl; exact rfl)); (first | (apply Q_litD TYok; (repeat (first | exact EvR.nil | apply EvR.cons Ev.auto)); exact rfl; exact rfl; exact rfl; exact rfl; exact rfl; exact rfl) | exact QX.B TYok | exact QX.Len TYok | exact QX.Idx TYok | exact QX.Build TYok | exact QX.Cut TYok | exact QCd (c1)); exact rfl) | refine SX.Alloc TYok (h := ?_) | refine SX.Store TYok (h := ?_) | refine SX.Lit TYok (h := ?_) | refine SX.App TYok (h := ?_) | refine SX.Box TYok (h := ?_) | refine SC ?_ | (apply S_isnil TYok; exact rfl; exact rfl; exact rfl; exact Ev.auto; intro bn hnil) | (apply W.draw2 (id := 5) [0, 0, 3, 7, 15, 0, 32, 127] [[0], [5], [17, 18], [19], [20], [3], [22], [21, 23]] 8 [(17, 1), (18, 32), (19, 393216), (20, 524288), (21, 1048576), (22, 8), (23, 4194304), (24, 10485760)] mixed (by kernel_rfl) rfl rfl) | (apply W.draw2 (id := 6) [0, 0, 3, 0, 0, 24, 56, 120, 255, 511] [[0], [5], [25, 26], [0], [5], [28, 29], [30], [31], [27, 32]] 9 [(25, 1), (26, 32), (27, 100663296), (28, 1), (29, 32), (30, 805306368), (31, 1073741824), (32, 2147483648), (33, 4429185024)] mixed (by kernel_rfl) rfl rfl) | (apply W.draw2 (id := 12) [0, 1, 0, 0, 8, 0, 56, 120, 252, 508, 1023, 2047, 4095] [[6], [51], [0], [3], [54], [7], [55, 56], [57], [53, 58], [59]] 10 [(51, 64), (52, 2251799813685248), (53, 1), (54, 8), (55, 18014398509481984), (56, 128), (57, 108086391056891904), (58, 144115188075855872), (59, 297237575406452736), (60, 576460752303423488)] mixed (by kernel_rfl) rfl rfl) | (refine W.condA (ht := fun hb => ?_) (hf := fun hb => ?_) <;> (try simp at hb) <;> (try (exfalso; omega))))
        all_goals first
          | exact FinM.ret ResM.auto
          | (exfalso; omega)
          | (exfalso; exact hb hn)
          | trace_state
      · repeat' (first | ((first | apply U_ | apply Lex.u | (apply Lex.g; exact rfl; exact rfl) | (apply Lex.gq; exact rfl; exact rfl)); (first | (apply Q_litD TYok; (repeat (first | exact EvR.nil | apply EvR.cons Ev.auto)); exact rfl; exact rfl; exact rfl; exact rfl; exact rfl; exact rfl) | exact QX.B TYok | exact QX.Len TYok | exact QX.Idx TYok | exact QX.Build TYok | exact QX.Cut TYok); exact rfl) | refine SX.Alloc TYok (h := ?_) | refine SX.Store TYok (h := ?_) | refine SX.Lit TYok (h := ?_) | refine SX.App TYok (h := ?_) | refine SX.Box TYok (h := ?_) | refine SC ?_ | (apply S_isnil TYok; exact rfl; exact rfl; exact rfl; exact Ev.auto; intro bn hnil) | (apply W.draw2 (id := 5) [0, 0, 3, 7, 15, 0, 32, 127] [[0], [5], [17, 18], [19], [20], [3], [22], [21, 23]] 8 [(17, 1), (18, 32), (19, 393216), (20, 524288), (21, 1048576), (22, 8), (23, 4194304), (24, 10485760)] mixed (by kernel_rfl) rfl rfl) | (apply W.draw2 (id := 6) [0, 0, 3, 0, 0, 24, 56, 120, 255, 511] [[0], [5], [25, 26], [0], [5], [28, 29], [30], [31], [27, 32]] 9 [(25, 1), (26, 32), (27, 100663296), (28, 1), (29, 32), (30, 805306368), (31, 1073741824), (32, 2147483648), (33, 4429185024)] mixed (by kernel_rfl) rfl rfl) | (apply W.draw2 (id := 12) [0, 1, 0, 0, 8, 0, 56, 120, 252, 508, 1023, 2047, 4095] [[6], [51], [0], [3], [54], [7], [55, 56], [57], [53, 58], [59]] 10 [(51, 64), (52, 2251799813685248), (53, 1), (54, 8), (55, 18014398509481984), (56, 128), (57, 108086391056891904), (58, 144115188075855872), (59, 297237575406452736), (60, 576460752303423488)] mixed (by kernel_rfl) rfl rfl) | (refine W.condA (ht := fun hb => ?_) (hf := fun hb => ?_) <;> (try simp at hb) <;> (try (exfalso; omega))))
        all_goals first
          | (refine ⟨k + 1, ⟨by omega, by rw [any_take hk, h2]; exact decide_eq_false hn⟩, ?_, by (try simp only); omega⟩; exact Le.auto)
          | (exfalso; omega)
          | (exfalso; exact hn hb)
          | trace_state
    · obtain rfl : k = L.length := by omega
      rw [List.take_length] at h2
      have e := hm h2
      subst e
      rw [← ha, aE_mk]
      repeat' (first | ((first | apply U_ | apply Lex.u | (apply Lex.g; exact rfl; exact rfl) | (apply Lex.gq; exact rfl; exact rfl)); (first | (apply Q_litD TYok; (repeat (first | exact EvR.nil | apply EvR.cons Ev.auto)); exact rfl; exact rfl; exact rfl; exact rfl; exact rfl; exact rfl) | exact QX.B TYok | exact QX.Len TYok | exact QX.Idx TYok | exact QX.Build TYok | exact QX.Cut TYok); exact rfl) | refine SX.Alloc TYok (h := ?_) | refine SX.Store TYok (h := ?_) | refine SX.Lit TYok (h := ?_) | refine SX.App TYok (h := ?_) | refine SX.Box TYok (h := ?_) | refine SC ?_ | (apply S_isnil TYok; exact rfl; exact rfl; exact rfl; exact Ev.auto; intro bn hnil) | (apply W.draw2 (id := 5) [0, 0, 3, 7, 15, 0, 32, 127] [[0], [5], [17, 18], [19], [20], [3], [22], [21, 23]] 8 [(17, 1), (18, 32), (19, 393216), (20, 524288), (21, 1048576), (22, 8), (23, 4194304), (24, 10485760)] mixed (by kernel_rfl) rfl rfl) | (apply W.draw2 (id := 6) [0, 0, 3, 0, 0, 24, 56, 120, 255, 511] [[0], [5], [25, 26], [0], [5], [28, 29], [30], [31], [27, 32]] 9 [(25, 1), (26, 32), (27, 100663296), (28, 1), (29, 32), (30, 805306368), (31, 1073741824), (32, 2147483648), (33, 4429185024)] mixed (by kernel_rfl) rfl rfl) | (apply W.draw2 (id := 12) [0, 1, 0, 0, 8, 0, 56, 120, 252, 508, 1023, 2047, 4095] [[6], [51], [0], [3], [54], [7], [55, 56], [57], [53, 58], [59]] 10 [(51, 64), (52, 2251799813685248), (53, 1), (54, 8), (55, 18014398509481984), (56, 128), (57, 108086391056891904), (58, 144115188075855872), (59, 297237575406452736), (60, 576460752303423488)] mixed (by kernel_rfl) rfl rfl) | (refine W.condA (ht := fun hb => ?_) (hf := fun hb => ?_) <;> (try simp at hb) <;> (try (exfalso; omega))))
      all_goals first
        | exact FinM.ret ResM.auto
        | (exfalso; omega)
        | trace_state
theorem Le.slaOwn {A : St} {t tt n b c len : Nat} {C : Blk} {f : Nat → Value} (ht : lk A.env t = some (True, .pv (.one (.sla b len c)))) (hp : lk A.env tt = some (True, .pin n b c f)) (hC : lk A.blks n = some C) (hlen : C.rows.length = len) : Le A (A.set t True (.slc n)) := fun G Φ β a w hs => by
  refine ⟨Φ, β, Φ.le_refl, hs.kept, hs.fits, hs.old, hs.siz, hs.dfr, fun s q v' h => ?_, hs.blk, hs.vir, hs.inj⟩
  simp only [St.set] at h
  rw [lk_cons] at h
  split at h
  · rename_i e; subst e
    simp only [Option.some.injEq, Prod.mk.injEq] at h
    obtain ⟨rfl, rfl⟩ := h
    refine ⟨fun _ => ?_, fun hq => (hq trivial).elim⟩
    obtain ⟨B, h1, h2, h3, _⟩ := (hs.env tt True _ hp).1 trivial
    have h4 : Rel Φ _ (.sla b len c) := (hs.env t True _ ht).1 trivial
    rw [hC] at h2
    obtain rfl := Option.some.inj h2
    exact ⟨C, hC, h3, .inr ⟨b, c, h1, by rw [hlen]; exact rel_sla h4⟩⟩
  · exact hs.env s q v' h
theorem repl_node (L : List Let) (hL : L.length ≤ 20) {op n u : Int} {s : Str} {l : List Exp} (hop : op ≠ 1) (hl : l.length ≤ 3) (R : Exp → Exp) (hc : ∀ x ∈ l, ACalls Try.prog 10 [.one (.sl (L.map encL)), aE x] (.pv (aE (R x)))) :
    ACalls Try.prog 10 [.one (.sl (L.map encL)), .agg [.int .i64 op, .int .i64 n, .int .i64 u, .str s, .sl (l.map encX)]] (.pv (aE (.mk op n u s (l.map R)))) := by
  rw [aE_mk]
  refine ACalls.of_M TYok (qs := [.agg [.int .i64 op, .int .i64 n, .int .i64 u, .str s, .sl ((l.map R).map encX)]]) [.cell 4 25] 64 Try.func10 (by kernel_rfl) rfl rfl rfl fun G => W.fin ?_
  refine W.initA (hw := ?_)
  repeat' (first | ((first | apply U_ | apply Lex.u | (apply Lex.g; exact rfl; exact rfl) | (apply Lex.gq; exact rfl; exact rfl)); (first | (apply Q_litD TYok; (repeat (first | exact EvR.nil | apply EvR.cons Ev.auto)); exact rfl; exact rfl; exact rfl; exact rfl; exact rfl; exact rfl) | exact QX.B TYok | exact QX.Len TYok | exact QX.Idx TYok | exact QX.Build TYok | exact QX.Cut TYok); exact rfl) | refine SX.Alloc TYok (h := ?_) | refine SX.Store TYok (h := ?_) | refine SX.Lit TYok (h := ?_) | refine SX.App TYok (h := ?_) | refine SX.Box TYok (h := ?_) | refine SC ?_ | (apply S_isnil TYok; exact rfl; exact rfl; exact rfl; exact Ev.auto; intro bn hnil) | (apply W.draw2 (id := 5) [0, 0, 3, 7, 15, 0, 32, 127] [[0], [5], [17, 18], [19], [20], [3], [22], [21, 23]] 8 [(17, 1), (18, 32), (19, 393216), (20, 524288), (21, 1048576), (22, 8), (23, 4194304), (24, 10485760)] mixed (by kernel_rfl) rfl rfl) | (apply W.draw2 (id := 6) [0, 0, 3, 0, 0, 24, 56, 120, 255, 511] [[0], [5], [25, 26], [0], [5], [28, 29], [30], [31], [27, 32]] 9 [(25, 1), (26, 32), (27, 100663296), (28, 1), (29, 32), (30, 805306368), (31, 1073741824), (32, 2147483648), (33, 4429185024)] mixed (by kernel_rfl) rfl rfl) | (apply W.draw2 (id := 12) [0, 1, 0, 0, 8, 0, 56, 120, 252, 508, 1023, 2047, 4095] [[6], [51], [0], [3], [54], [7], [55, 56], [57], [53, 58], [59]] 10 [(51, 64), (52, 2251799813685248), (53, 1), (54, 8), (55, 18014398509481984), (56, 128), (57, 108086391056891904), (58, 144115188075855872), (59, 297237575406452736), (60, 576460752303423488)] mixed (by kernel_rfl) rfl rfl) | (refine W.condA (ht := fun hb => ?_) (hf := fun hb => ?_) <;> (try simp at hb) <;> (try (exfalso; omega))))
  apply W.loopP (σ := Nat × Nat × Nat) 64 [0, 3, 4, 6] (fun (k, b, c) => k ≤ l.length) (fun (k, b, c) => (match k with | 0 => [(7, vI 0)] | k + 1 => [(7, vI ((k + 1 : Nat) : Int)), (61, (True, .pin 61 b c (slcV b c)))])) (fun (k, b, c) => (match k with | 0 => [(3, ⟨25, 5, [[.int .i64 op, .int .i64 n, .int .i64 u, .str s, .sl (l.map encX)]]⟩), (4, ⟨25, 5, [[.int .i64 0, .int .i64 0, .int .i64 0, .str [], .slnil]]⟩), (6, ⟨25, 5, [[.int .i64 op, .int .i64 n, .int .i64 u, .str s, .slnil]]⟩)] | k + 1 => [(3, ⟨25, 5, [[.int .i64 op, .int .i64 n, .int .i64 u, .str s, .sl (l.map encX)]]⟩), (4, ⟨25, 5, [[.int .i64 0, .int .i64 0, .int .i64 0, .str [], .slnil]]⟩), (6, ⟨25, 5, [[.int .i64 op, .int .i64 n, .int .i64 u, .str s, .sla b (((l.map R).map encX).take (k + 1)).length c]]⟩), (61, ⟨25, 5, ((l.map R).map encX).take (k + 1)⟩)])) (fun (k, b, c) => l.length - k) ((0, 0, 0))
  case hp => repeat (first | exact Pick.nil | apply Pick.cons rfl)
  case h0 =>
    refine ⟨by simp, ?_⟩
    exact Le.auto
  case round =>
    rintro ⟨_ | k, b, c⟩ hk1
    · dsimp only
      apply W.norm (by repeat (first | exact App.nil | apply App.cons))
      by_cases hk : 0 < l.length
      · have c1 := hc _ (nth_mem hk)
        have e1 : ((l.map R).map encX).take (0 + 1) = [encX (R (nth l 0))] := by
          obtain ⟨x, r, rfl⟩ : ∃ x r, l = x :: r := by cases l with | nil => simp at hk | cons x r => exact ⟨x, r, rfl⟩
          rw [nth0]; rfl
        generalize R (nth l 0) = Y at *
        repeat' (first | (refine RG.weaken (Le.nilOwn (t := 52) (n := 52) (E := 25) (sz := 5) rfl) ?_) | (refine RG.place (t := 61) rfl rfl (fun b1 c1 => ?_) (fun hz => absurd hz (by simp))) | ((first | apply U_ | apply Lex.u | (apply Lex.g; exact rfl; exact rfl) | (apply Lex.gq; exact rfl; exact rfl)); (first | (apply Q_litD TYok; (repeat (first | exact EvR.nil | apply EvR.cons Ev.auto)); exact rfl; exact rfl; exact rfl; exact rfl; exact rfl; exact rfl) | (apply Q_litD TYok; apply EvR.cons Ev.auto; (repeat (first | exact EvR.nil | apply EvR.cons Ev.auto)); exact rfl; exact rfl; exact rfl; exact rfl; exact rfl; exact rfl) | exact QX.B TYok | exact QX.Len TYok | exact QX.Idx TYok | exact QX.Build TYok | exact QX.Cut TYok | exact QCd (c1)); exact rfl) | refine SX.Alloc TYok (h := ?_) | refine SX.Store TYok (h := ?_) | refine SX.Lit TYok (h := ?_) | refine SX.App TYok (h := ?_) | refine SX.Box TYok (h := ?_) | (apply S_appendd TYok; exact Ev.auto; exact Ev.auto; exact rfl; exact rfl; exact rfl; exact rfl; exact rfl; exact rfl; exact rfl; exact rfl; (intro r hr; first | (obtain ⟨_, _, rfl⟩ := List.mem_map.1 hr; rfl) | (obtain rfl := List.mem_singleton.1 hr; rfl)); (constructor <;> simp <;> omega); exact rfl) | (apply S_storeO TYok; exact Ev.auto; exact rfl; exact rfl; exact rfl; exact rfl; exact rfl; exact rfl; exact rfl; (first | (focus (simp; done)) | exact Nat.le_of_ble_eq_true rfl)) | refine SC ?_ | (apply S_isnil TYok; exact rfl; exact rfl; exact rfl; exact Ev.auto; intro bn hnil) | (apply W.draw2 (id := 5) [0, 0, 3, 7, 15, 0, 32, 127] [[0], [5], [17, 18], [19], [20], [3], [22], [21, 23]] 8 [(17, 1), (18, 32), (19, 393216), (20, 524288), (21, 1048576), (22, 8), (23, 4194304), (24, 10485760)] mixed (by kernel_rfl) rfl rfl) | (apply W.draw2 (id := 6) [0, 0, 3, 0, 0, 24, 56, 120, 255, 511] [[0], [5], [25, 26], [0], [5], [28, 29], [30], [31], [27, 32]] 9 [(25, 1), (26, 32), (27, 100663296), (28, 1), (29, 32), (30, 805306368), (31, 1073741824), (32, 2147483648), (33, 4429185024)] mixed (by kernel_rfl) rfl rfl) | (apply W.draw2 (id := 12) [0, 1, 0, 0, 8, 0, 56, 120, 252, 508, 1023, 2047, 4095] [[6], [51], [0], [3], [54], [7], [55, 56], [57], [53, 58], [59]] 10 [(51, 64), (52, 2251799813685248), (53, 1), (54, 8), (55, 18014398509481984), (56, 128), (57, 108086391056891904), (58, 144115188075855872), (59, 297237575406452736), (60, 576460752303423488)] mixed (by kernel_rfl) rfl rfl) | (refine W.condA (ht := fun hb => ?_) (hf := fun hb => ?_) <;> (try simp at hb) <;> (try (exfalso; omega))))
        all_goals first
          | (exfalso; omega)
          | (exfalso; rw [hb] at hk; simp at hk; done)
          | (refine ⟨(0 + 1, b1, c1), hk, ?_, by (first | omega | (simp only; omega))⟩; dsimp only; simp only [e1]; exact Le.auto)
          | trace_state
      · have hl0 : l = [] := List.length_eq_zero_iff.1 (by omega)
        subst hl0
        repeat' (first | ((first | apply U_ | apply Lex.u | (apply Lex.g; exact rfl; exact rfl) | (apply Lex.gq; exact rfl; exact rfl)); (first | (apply Q_litD TYok; (repeat (first | exact EvR.nil | apply EvR.cons Ev.auto)); exact rfl; exact rfl; exact rfl; exact rfl; exact rfl; exact rfl) | exact QX.B TYok | exact QX.Len TYok | exact QX.Idx TYok | exact QX.Build TYok | exact QX.Cut TYok); exact rfl) | refine SX.Alloc TYok (h := ?_) | refine SX.Store TYok (h := ?_) | refine SX.Lit TYok (h := ?_) | refine SX.App TYok (h := ?_) | refine SX.Box TYok (h := ?_) | refine SC ?_ | (apply S_isnil TYok; exact rfl; exact rfl; exact rfl; exact Ev.auto; intro bn hnil) | (apply W.draw2 (id := 5) [0, 0, 3, 7, 15, 0, 32, 127] [[0], [5], [17, 18], [19], [20], [3], [22], [21, 23]] 8 [(17, 1), (18, 32), (19, 393216), (20, 524288), (21, 1048576), (22, 8), (23, 4194304), (24, 10485760)] mixed (by kernel_rfl) rfl rfl) | (apply W.draw2 (id := 6) [0, 0, 3, 0, 0, 24, 56, 120, 255, 511] [[0], [5], [25, 26], [0], [5], [28, 29], [30], [31], [27, 32]] 9 [(25, 1), (26, 32), (27, 100663296), (28, 1), (29, 32), (30, 805306368), (31, 1073741824), (32, 2147483648), (33, 4429185024)] mixed (by kernel_rfl) rfl rfl) | (apply W.draw2 (id := 12) [0, 1, 0, 0, 8, 0, 56, 120, 252, 508, 1023, 2047, 4095] [[6], [51], [0], [3], [54], [7], [55, 56], [57], [53, 58], [59]] 10 [(51, 64), (52, 2251799813685248), (53, 1), (54, 8), (55, 18014398509481984), (56, 128), (57, 108086391056891904), (58, 144115188075855872), (59, 297237575406452736), (60, 576460752303423488)] mixed (by kernel_rfl) rfl rfl) | (refine W.condA (ht := fun hb => ?_) (hf := fun hb => ?_) <;> (try simp at hb) <;> (try (exfalso; omega))))
        all_goals first
          | (exfalso; omega)
          | (refine ⟨_, Le.refl, FinM.ret (ResM.cell rfl rfl rfl rfl ?_ ResM.nil)⟩
             show LSub [_, _, _, _, _] [_, _, _, _, _]
             exact ⟨.refl _, .refl _, .refl _, .refl _, .nil, trivial⟩)
          | trace_state
    · dsimp only
      apply W.norm (by repeat (first | exact App.nil | apply App.cons))
      have hlen : (((l.map R).map encX).take (k + 1)).length = k + 1 := by
        rw [List.length_take, List.length_map, List.length_map]
        have : k + 1 ≤ l.length := hk1
        omega
      by_cases hk : k + 1 < l.length
      · have c1 := hc _ (nth_mem hk)
        have e1 : ((l.map R).map encX).take (k + 1 + 1) = ((l.map R).map encX).take (k + 1) ++ [encX (R (nth l (k + 1)))] := by
          rw [List.map_map, ← List.map_take, ← List.map_take, take_nth hk, List.map_append]; rfl
        have e2 : (((l.map R).map encX).take (k + 1) ++ [encX (R (nth l (k + 1)))]).length = (((l.map R).map encX).take (k + 1)).length + 1 := by rw [List.length_append]; rfl
        generalize hY : R (nth l (k + 1)) = Y at *
        generalize hT : ((l.map R).map encX).take (k + 1) = T at *
        repeat' (first | (refine RG.weaken (Le.slaOwn (t := 52) (tt := 61) (n := 61) rfl rfl rfl rfl) ?_) | (refine RG.place (t := 61) rfl rfl (fun b1 c1 => ?_) (fun hz => absurd hz (by simp))) | ((first | apply U_ | apply Lex.u | (apply Lex.g; exact rfl; exact rfl) | (apply Lex.gq; exact rfl; exact rfl)); (first | (apply Q_litD TYok; (repeat (first | exact EvR.nil | apply EvR.cons Ev.auto)); exact rfl; exact rfl; exact rfl; exact rfl; exact rfl; exact rfl) | (apply Q_litD TYok; apply EvR.cons Ev.auto; (repeat (first | exact EvR.nil | apply EvR.cons Ev.auto)); exact rfl; exact rfl; exact rfl; exact rfl; exact rfl; exact rfl) | exact QX.B TYok | exact QX.Len TYok | exact QX.Idx TYok | exact QX.Build TYok | exact QX.Cut TYok | exact QCd (c1)); exact rfl) | refine SX.Alloc TYok (h := ?_) | refine SX.Store TYok (h := ?_) | refine SX.Lit TYok (h := ?_) | refine SX.App TYok (h := ?_) | refine SX.Box TYok (h := ?_) | (apply S_appendd TYok; exact Ev.auto; exact Ev.auto; exact rfl; exact rfl; exact rfl; exact rfl; exact rfl; exact rfl; exact rfl; exact rfl; (intro r hr; first | (obtain ⟨_, _, rfl⟩ := List.mem_map.1 hr; rfl) | (obtain rfl := List.mem_singleton.1 hr; rfl)); (constructor <;> simp <;> omega); exact rfl) | (apply S_storeO TYok; exact Ev.auto; exact rfl; exact rfl; exact rfl; exact rfl; exact rfl; exact rfl; exact rfl; (first | (focus (simp; done)) | exact Nat.le_of_ble_eq_true rfl)) | refine SC ?_ | (apply S_isnil TYok; exact rfl; exact rfl; exact rfl; exact Ev.auto; intro bn hnil) | (apply W.draw2 (id := 5) [0, 0, 3, 7, 15, 0, 32, 127] [[0], [5], [17, 18], [19], [20], [3], [22], [21, 23]] 8 [(17, 1), (18, 32), (19, 393216), (20, 524288), (21, 1048576), (22, 8), (23, 4194304), (24, 10485760)] mixed (by kernel_rfl) rfl rfl) | (apply W.draw2 (id := 6) [0, 0, 3, 0, 0, 24, 56, 120, 255, 511] [[0], [5], [25, 26], [0], [5], [28, 29], [30], [31], [27, 32]] 9 [(25, 1), (26, 32), (27, 100663296), (28, 1), (29, 32), (30, 805306368), (31, 1073741824), (32, 2147483648), (33, 4429185024)] mixed (by kernel_rfl) rfl rfl) | (apply W.draw2 (id := 12) [0, 1, 0, 0, 8, 0, 56, 120, 252, 508, 1023, 2047, 4095] [[6], [51], [0], [3], [54], [7], [55, 56], [57], [53, 58], [59]] 10 [(51, 64), (52, 2251799813685248), (53, 1), (54, 8), (55, 18014398509481984), (56, 128), (57, 108086391056891904), (58, 144115188075855872), (59, 297237575406452736), (60, 576460752303423488)] mixed (by kernel_rfl) rfl rfl) | (refine W.condA (ht := fun hb => ?_) (hf := fun hb => ?_) <;> (try simp at hb) <;> (try (exfalso; omega))))
        all_goals first
          | (exfalso; omega)
          | (refine ⟨(k + 1 + 1, b1, c1), hk, ?_, by (first | omega | (simp only; omega))⟩; dsimp only; simp only [e1]; exact Le.auto)
          | trace_state
      · have hl1 : k + 1 = l.length := by simp only at hk1; omega
        have hn : ((l.map R).map encX).take (k + 1) = (l.map R).map encX := List.take_of_length_le (by simp; omega)
        simp only [hn] at hlen ⊢
        generalize (l.map R).map encX = T at *
        repeat' (first | ((first | apply U_ | apply Lex.u | (apply Lex.g; exact rfl; exact rfl) | (apply Lex.gq; exact rfl; exact rfl)); (first | (apply Q_litD TYok; (repeat (first | exact EvR.nil | apply EvR.cons Ev.auto)); exact rfl; exact rfl; exact rfl; exact rfl; exact rfl; exact rfl) | (apply Q_loadO TYok (tt := 61); exact rfl; exact rfl; exact rfl; exact rfl; exact rfl; exact rfl; exact Ev.auto; exact rfl; exact rfl; exact rfl; (first | exact rfl | (focus (simp; done)))) | exact QX.B TYok | exact QX.Len TYok | exact QX.Idx TYok | exact QX.Build TYok | exact QX.Cut TYok); exact rfl) | refine SX.Alloc TYok (h := ?_) | refine SX.Store TYok (h := ?_) | refine SX.Lit TYok (h := ?_) | refine SX.App TYok (h := ?_) | refine SX.Box TYok (h := ?_) | refine SC ?_ | (apply S_isnil TYok; exact rfl; exact rfl; exact rfl; exact Ev.auto; intro bn hnil) | (apply W.draw2 (id := 5) [0, 0, 3, 7, 15, 0, 32, 127] [[0], [5], [17, 18], [19], [20], [3], [22], [21, 23]] 8 [(17, 1), (18, 32), (19, 393216), (20, 524288), (21, 1048576), (22, 8), (23, 4194304), (24, 10485760)] mixed (by kernel_rfl) rfl rfl) | (apply W.draw2 (id := 6) [0, 0, 3, 0, 0, 24, 56, 120, 255, 511] [[0], [5], [25, 26], [0], [5], [28, 29], [30], [31], [27, 32]] 9 [(25, 1), (26, 32), (27, 100663296), (28, 1), (29, 32), (30, 805306368), (31, 1073741824), (32, 2147483648), (33, 4429185024)] mixed (by kernel_rfl) rfl rfl) | (apply W.draw2 (id := 12) [0, 1, 0, 0, 8, 0, 56, 120, 252, 508, 1023, 2047, 4095] [[6], [51], [0], [3], [54], [7], [55, 56], [57], [53, 58], [59]] 10 [(51, 64), (52, 2251799813685248), (53, 1), (54, 8), (55, 18014398509481984), (56, 128), (57, 108086391056891904), (58, 144115188075855872), (59, 297237575406452736), (60, 576460752303423488)] mixed (by kernel_rfl) rfl rfl) | (refine W.condA (ht := fun hb => ?_) (hf := fun hb => ?_) <;> (try simp at hb) <;> (try (exfalso; omega))))
        all_goals first
          | (exfalso; omega)
          | exact ⟨_, Le.freezeK (row' := [.int .i64 op, .int .i64 n, .int .i64 u, .str s, .sl T]) (m := 4) (t := 61) (n := 61) rfl rfl rfl rfl rfl (by decide) (by exact ⟨.refl _, .refl _, .refl _, .refl _, .sla, trivial⟩), FinM.ret ResM.auto⟩
          | trace_state
end
end Go.Proofs.Ytjedkgogjehigaa
end
section
set_option linter.unusedVariables false
set_option linter.unusedSimpArgs false
set_option maxHeartbeats 8000000
set_option linter.unusedSectionVars false
namespace Go.Proofs.Ytjedkgogjehigaa
open Lf Go
attribute [local irreducible] PureOp EffOp Ev RG W Then InBlock Lf.Fin nth App InitE Pick EvL EvD EvP EvR ResL Lf.Lex SubR SubBR EvC FinO FinM ResM ResD FinS val pw digs trimL
section
variable {lets : List Let} {en : EnvQ}
theorem right_len {d : Nat} {op n u : Int} {s : Str} {l : List Exp} (h : rightF (d + 1) (.mk op n u s l) = true) : l.length ≤ 3 := by
  rw [rightF] at h
  simp only [Bool.and_eq_true, decide_eq_true_iff] at h
  have := opsF_cases h.1
  omega
/-- the parts of a right expression are right -/
theorem right_kids {d : Nat} {op n u : Int} {s : Str} {l : List Exp} (h : rightF (d + 1) (.mk op n u s l) = true) : ∀ x ∈ l, rightF d x = true := by
  rw [rightF] at h
  simp only [Bool.and_eq_true, decide_eq_true_iff] at h
  obtain ⟨h1, h2⟩ := h
  rcases opsF_cases h1 with ⟨q, hk⟩ | ⟨q, hk⟩ | ⟨q, hk⟩ | ⟨q, hk⟩
  · have hl : l = [] := List.length_eq_zero_iff.1 hk
    subst hl
    intro x hx; cases hx
  all_goals (
    rw [if_neg (by omega), if_neg (by omega)] at h2
    split at h2
    · simp only [Bool.and_eq_true, List.all_eq_true] at h2; exact h2.2
    · simp only [Bool.and_eq_true, List.all_eq_true] at h2; exact h2.2)
theorem repl_ok (hL : LetsOk lets) : ∀ (n : Nat), n ≤ lets.length → ∀ (d : Nat) (e : Exp), rightF d e = true → ACalls Try.prog 10 [.one (.sl ((lets.take n).map encL)), aE e] (.pv (aE (repF lets (repT lets n) e))) := by
  intro n
  induction n using Nat.strongRecOn with
  | _ n ihn =>
  intro hn d
  have hlen : (lets.take n).length = n := by rw [List.length_take]; omega
  induction d with
  | zero => intro e hr; obtain ⟨op, k, u, s, l⟩ := e; rw [rightF] at hr; cases hr
  | succ d ih =>
  intro e hr
  obtain ⟨op, k, u, s, l⟩ := e
  rw [aE_mk, repF_mk]
  by_cases h1 : op = 1
  · subst h1
    rw [if_pos rfl, lookR, repT_len]
    refine repl_name (lets.take n) (by have := hL.1; omega) k u s l (.mk 1 k u s l) (repT lets n) (fun i hi => ?_) (by rw [repT_len, hlen])
    rw [hlen] at hi
    rw [take_map, List.take_take, Nat.min_eq_left (by omega), nth_take hi, repT_nth lets hi]
    exact ihn i hi (by omega) 12 _ (statF_yes (hL.2 _ (nth_mem (show i < lets.length by omega))).1).1
  · rw [if_neg h1]
    exact repl_node (lets.take n) (by have := hL.1; omega) h1 (right_len hr) _ (fun x hx => ih x (right_kids hr x hx))
theorem repl_okE (hL : LetsOk lets) : ∀ (n : Nat), n ≤ lets.length → ∀ (e : Exp), OkE e → OkE (repF lets (repT lets n) e) := by
  intro n
  induction n using Nat.strongRecOn with
  | _ n ihn =>
  intro hn
  refine Exp.ind fun op k u s l ih he => ?_
  rw [repF_mk]
  split
  · rw [lookR, repT_len]
    split
    · rename_i hop ha
      have hin := hit_ix hn ha rfl
      rw [repT_nth lets hin]
      exact ihn _ hin (by omega) _ (hL.2 _ (nth_mem (by omega))).2
    · exact he
  · cases he with
    | mk hs hl hx =>
    exact .mk hs (by rw [List.length_map]; exact hl) (fun x hx' => by
      obtain ⟨y, hy, rfl⟩ := List.mem_map.1 hx'
      exact ih y hy (hx y hy))
theorem repl_temp (hL : LetsOk lets) : ∀ (n : Nat), n ≤ lets.length → ∀ (e : Exp), tempF e = false → tempF (repF lets (repT lets n) e) = false := by
  intro n
  induction n using Nat.strongRecOn with
  | _ n ihn =>
  intro hn
  refine Exp.ind fun op k u s l ih he => ?_
  rw [repF_mk]
  split
  · rw [lookR, repT_len]
    split
    · rename_i hop ha
      have hin := hit_ix hn ha rfl
      rw [repT_nth lets hin]
      exact ihn _ hin (by omega) _ (statF_yes (hL.2 _ (nth_mem (by omega))).1).2
    · exact he
  · rw [tempF, tempFs_any] at he ⊢
    rw [Bool.or_eq_false_iff] at he ⊢
    refine ⟨he.1, ?_⟩
    cases h : (l.map (repF lets (repT lets n))).any tempF with
    | false => rfl
    | true =>
      obtain ⟨y, hy, h2⟩ := List.any_eq_true.1 h
      obtain ⟨x, hx, rfl⟩ := List.mem_map.1 hy
      have hxf : tempF x = false := by
        cases h3 : tempF x with
        | false => rfl
        | true => rw [List.any_eq_true.2 ⟨x, hx, h3⟩] at he; cases he.2
      rw [ih x hx hxf] at h2
      cases h2
theorem step_free {vs : List Rs} {op n u : Int} {s : Str} {A : List Rs} (h : op ≠ 1) : stepF lets en vs op n u s A = stepF [] en [] op n u s A := by
  unfold stepF
  by_cases h0 : op = 0
  · rw [if_pos h0, if_pos h0]
  · rw [if_neg h0, if_neg h0, if_neg h, if_neg h]
/-- THE LAW: names that are replaced make no difference -/
theorem repl_val : ∀ (n : Nat), n ≤ lets.length → ∀ (e : Exp), evF lets en (tabF lets en n) e = evF [] en [] (repF lets (repT lets n) e) := by
  intro n
  induction n using Nat.strongRecOn with
  | _ n ihn =>
  intro hn
  refine Exp.ind fun op k u s l ih => ?_
  rw [repF_mk]
  split
  · rename_i hop
    subst hop
    rw [ev_name, lookN, lookR, tabF_len, repT_len]
    split
    · rename_i ha
      have hin := hit_ix hn ha rfl
      rw [repT_nth lets hin, tabF_nth lets en hin]
      exact ihn _ hin (by omega) _
    · rw [ev_name, lookN]; rfl
  · rename_i hop
    rw [evF_mk, evF_mk, step_free hop, List.map_map]
    congr 1
    exact List.map_congr_left fun x hx => ih x hx
theorem statF_of {e : Exp} (h1 : rightF 12 e = true) (h2 : tempF e = false) : statF e = true := by unfold statF; rw [h1, h2]; rfl
theorem letsOk_nil : LetsOk [] := ⟨by decide, fun y hy => by cases hy⟩
end
end Go.Proofs.Ytjedkgogjehigaa
end
section
set_option linter.unusedVariables false
set_option linter.unusedSimpArgs false
set_option maxHeartbeats 8000000
set_option linter.unusedSectionVars false
namespace Go.Proofs.Ytjedkgogjehigaa
open Lf Go
attribute [local irreducible] PureOp EffOp Ev RG W Then InBlock Lf.Fin nth App InitE Pick EvL EvD EvP EvR ResL Lf.Lex SubR SubBR EvC FinO FinM ResM ResD FinS val pw digs trimL
section
variable {lets : List Let} {en : EnvQ}
abbrev x0V (c : Cell) : PV := .agg [.str [], .str [], .int .i64 0, .int .i64 0, .int .i64 0, .int .i64 0, .int .i64 0, .int .i64 0, .int .i64 0, .int .i64 0, c, .int .i64 0, .int .i64 0, .int .i64 0, .str [], .slnil, .int .i64 0, .slnil, .slnil, .int .i64 0, .slnil, .int .i64 0, .int .i64 0, .int .i64 0, .int .i64 0]
theorem Q_none {P : Program} {G : Ghost} {A : St} {o : Oper} {p : Prop} (h : PureOp P G A o p (.pv (x0V .slnil))) : PureOp P G A o p (.pv (x0V (.sl []))) :=
  PureOp.conv h fun Φ β a w hs Φ' v h => by
    have h' : PRel Φ' v (x0V .slnil) := h
    exact PRel.sub (q := x0V (.sl [])) h' ⟨.refl _, .refl _, .refl _, .refl _, .refl _, .refl _, .refl _, .refl _, .refl _, .refl _, .nil, .refl _, .refl _, .refl _, .refl _, .refl _, .refl _, .refl _, .refl _, .refl _, .refl _, .refl _, .refl _, .refl _, .refl _, trivial⟩
attribute [local irreducible] sgn mag gcdZ quoZ remZ fullZ fullE
theorem names_ok (hl : LIn lets) (e : Exp) (he : OkE e) (v : EnvV) (hv : v.Len) : ACalls Try.prog 3 [slL lets, aE e, vV v] (.pv (cB true)) := by
  have h0 := small_ok
  have h1 := few_ok hl e he v hv
  have h2 := env_ok v
  by_cases ha : askF lets e v = false
  · have h3 := value_arg hl he hv ha
    generalize fewF lets e v = b at *
    clear ha he hv
    obtain ⟨op, k, u, s, l⟩ := e
    obtain ⟨N, V, I, R⟩ := v
    refine ACalls.of_W (qs := [cB true]) [6] 60 Try.func3 (by kernel_rfl) rfl rfl rfl fun G => ?_
    refine W.initA (hw := ?_)
    repeat' (first | ((first | apply U_ | (apply Ug_; exact rfl; exact rfl) | (apply Ugq_; exact rfl; exact rfl)); (first | exact QX.B TYok | exact QX.Ext TYok | exact QX.Build TYok | exact QCd (h0) | exact QCd (h1) | exact QCd (h2) | exact QCd (h3)); exact rfl) | refine SX.Alloc TYok (h := ?_) | refine SX.Store TYok (h := ?_) | refine SX.Box TYok (h := ?_) | refine SC ?_ | (apply S_isnil TYok; exact rfl; exact rfl; exact rfl; exact Ev.auto; intro bn hnil) | (apply RG.gT; exact rfl; exact rfl; (first | assumption | decide)) | (apply RG.gF; exact rfl; exact rfl; (first | assumption | decide | (rw [ne_eq, Bool.not_eq_true]; assumption) | (rw [ne_eq, Bool.not_eq_false]; assumption)); exact rfl) | apply LexS.nil | (apply LexS.f; exact rfl; (first | (apply FreshV.alloc TYok; exact rfl; exact rfl; exact rfl; exact rfl) | (apply FreshV.lit TYok; (repeat (first | exact EvR.nil | apply EvR.cons Ev.auto)); exact rfl; exact rfl; exact rfl; exact rfl; exact rfl; exact rfl; exact rfl; exact rfl; exact rfl) | (apply FreshV.box; exact Ev.auto; exact rfl; exact rfl; exact rfl)); exact rfl; exact rfl; exact rfl) | (apply LexS.s; exact rfl; exact rfl; (apply StoreV.mk TYok; exact Ev.auto; exact Ev.auto; exact rfl; exact rfl; exact rfl; exact rfl; exact rfl)) | ((first | apply LexS.u | (apply LexS.g; exact rfl; exact rfl) | (apply LexS.gq; exact rfl; exact rfl)); (repeat (first | (apply NB.cons; exact rfl) | exact NB.nil rfl)); (first | exact QX.B TYok | exact QX.Ext TYok | exact QX.Build TYok | exact QCd (h0) | exact QCd (h1) | exact QCd (h2) | exact QCd (h3)); exact rfl; exact rfl; exact rfl) | (refine W.drawS (id := 5) [0, 0, 0, 4, 15, 31, 63, 63, 0, 383, 1023] [[8], [4], [5], [26], [24, 25, 27], [28], [23], [23], [], [9, 29], [30]] [(9, (9, ?_)), (8, (9, ?_))] [(9, 9), (8, 9)] mixed (by kernel_rfl) rfl ?_; rotate_left 2) | (refine W.drawS (id := 11) [0, 0, 0, 4, 15, 31, 63, 63, 0, 383, 1023] [[], [11], [5], [44], [42, 43, 45], [46], [41], [41], [], [12, 47], [48]] [(9, (12, ?_)), (8, (12, ?_))] [(9, 12), (8, 12)] mixed (by kernel_rfl) rfl ?_; rotate_left 2) | (refine W.condA (ht := fun hb => ?_) (hf := fun hb => ?_) <;> (try simp at hb) <;> (try (exfalso; omega))))
    all_goals first
      | exact Fin.ret ResL.auto
      | (exfalso; omega)
      | trace_state
  · rw [Bool.not_eq_false] at ha
    unfold askF at ha
    simp only [Bool.and_eq_true, decide_eq_true_iff, Bool.not_eq_true'] at ha
    obtain ⟨⟨a1, a2⟩, a3, a4⟩ := ha
    have hL := lets_ok hl a2 a3
    obtain ⟨en, oen, rfl⟩ := env_q hv a4
    have h3 := value_yes hL oen a1 he
    have fit := valF_fit hL oen a1
    have h4 := repl_ok hL lets.length (Nat.le_refl _) 12 e (statF_yes a1).1
    rw [List.take_length] at h4
    have e1 := repl_val (en := en) lets.length (Nat.le_refl _) e
    have oW := repl_okE hL lets.length (Nat.le_refl _) e he
    have tW := repl_temp hL lets.length (Nat.le_refl _) e (statF_yes a1).2
    have h5 := rightExp_ok _ oW
    have h6 : rightF 12 (repF lets (repT lets lets.length) e) = true → ACalls Try.prog 8 [x0V (.sl []), aE (repF lets (repT lets lets.length) e), vV en.V] (resP (valF lets en lets.length e)) := fun hr => by
      have := value_yes letsOk_nil oen (statF_of hr tW) oW
      rw [show valF [] en ([] : List Let).length (repF lets (repT lets lets.length) e) = valF lets en lets.length e from e1.symm] at this
      exact this
    have h7 := sameV_ok _ fit
    generalize valF lets en lets.length e = R at *
    generalize repF lets (repT lets lets.length) e = Y at *
    generalize fewF lets e en.V = b at *
    clear a1 a2 a3 a4 oen hL hv e1 oW tW fit he
    generalize en.V = v at *
    obtain ⟨N, V, I, Rt⟩ := v
    obtain ⟨op, k, u, s, l⟩ := e
    obtain ⟨x1, x2, x3, x4, hR⟩ := R.v_agg
    unfold resP at h3 h6
    rw [hR] at h3 h6 h7
    generalize R.e = c at *
    clear hR
    rw [show aE Y = .agg [.int .i64 Y.op, .int .i64 Y.n, .int .i64 Y.u, .str Y.s, .sl (Y.args.map encE)] from rfl] at h4 h5 h6
    generalize Y.op = y1 at *
    generalize Y.n = y2 at *
    generalize Y.u = y3 at *
    generalize Y.s = y4 at *
    generalize Y.args.map encE = y5 at *
    cases hY : rightF 12 Y with
    | false =>
      rw [hY] at h5
      clear h6 h7
      refine ACalls.of_W (qs := [cB true]) [6] 60 Try.func3 (by kernel_rfl) rfl rfl rfl fun G => ?_
      refine W.initA (hw := ?_)
      repeat' (first | ((first | apply U_ | (apply Ug_; exact rfl; exact rfl) | (apply Ugq_; exact rfl; exact rfl)); (first | exact QX.B TYok | exact QX.Ext TYok | exact QX.Build TYok | exact QCd (h0) | exact QCd (h1) | exact QCd (h2) | exact QCd (h3) | exact QCd (h4) | exact QCd (h5)); exact rfl) | refine SX.Alloc TYok (h := ?_) | refine SX.Store TYok (h := ?_) | refine SX.Box TYok (h := ?_) | refine SC ?_ | (apply S_isnil TYok; exact rfl; exact rfl; exact rfl; exact Ev.auto; intro bn hnil) | (apply RG.gT; exact rfl; exact rfl; (first | assumption | decide)) | (apply RG.gF; exact rfl; exact rfl; (first | assumption | decide | (rw [ne_eq, Bool.not_eq_true]; assumption) | (rw [ne_eq, Bool.not_eq_false]; assumption)); exact rfl) | apply LexS.nil | (apply LexS.f; exact rfl; (first | (apply FreshV.alloc TYok; exact rfl; exact rfl; exact rfl; exact rfl) | (apply FreshV.lit TYok; (repeat (first | exact EvR.nil | apply EvR.cons Ev.auto)); exact rfl; exact rfl; exact rfl; exact rfl; exact rfl; exact rfl; exact rfl; exact rfl; exact rfl) | (apply FreshV.box; exact Ev.auto; exact rfl; exact rfl; exact rfl)); exact rfl; exact rfl; exact rfl) | (apply LexS.s; exact rfl; exact rfl; (apply StoreV.mk TYok; exact Ev.auto; exact Ev.auto; exact rfl; exact rfl; exact rfl; exact rfl; exact rfl)) | ((first | apply LexS.u | (apply LexS.g; exact rfl; exact rfl) | (apply LexS.gq; exact rfl; exact rfl)); (repeat (first | (apply NB.cons; exact rfl) | exact NB.nil rfl)); (first | exact QX.B TYok | exact QX.Ext TYok | exact QX.Build TYok | exact QCd (h0) | exact QCd (h1) | exact QCd (h2) | exact QCd (h3) | exact QCd (h4) | exact QCd (h5)); exact rfl; exact rfl; exact rfl) | (refine W.drawS (id := 5) [0, 0, 0, 4, 15, 31, 63, 63, 0, 383, 1023] [[8], [4], [5], [26], [24, 25, 27], [28], [23], [23], [], [9, 29], [30]] [(9, (9, ?_)), (8, (9, ?_))] [(9, 9), (8, 9)] mixed (by kernel_rfl) rfl ?_; rotate_left 2) | (refine W.drawS (id := 11) [0, 0, 0, 4, 15, 31, 63, 63, 0, 383, 1023] [[], [11], [5], [44], [42, 43, 45], [46], [41], [41], [], [12, 47], [48]] [(9, (12, ?_)), (8, (12, ?_))] [(9, 12), (8, 12)] mixed (by kernel_rfl) rfl ?_; rotate_left 2) | (refine W.condA (ht := fun hb => ?_) (hf := fun hb => ?_) <;> (try simp at hb) <;> (try (exfalso; omega))))
      all_goals first
        | exact Fin.ret ResL.auto
        | (exfalso; omega)
        | trace_state
    | true =>
      rw [hY] at h5
      replace h6 := h6 hY
      refine ACalls.of_W (qs := [cB true]) [6] 60 Try.func3 (by kernel_rfl) rfl rfl rfl fun G => ?_
      refine W.initA (hw := ?_)
      repeat' (first | ((first | apply U_ | (apply Ug_; exact rfl; exact rfl) | (apply Ugq_; exact rfl; exact rfl)); (first | (apply Q_none; exact QX.Build TYok) | exact QX.B TYok | exact QX.Ext TYok | exact QX.Build TYok | exact QCd (h0) | exact QCd (h1) | exact QCd (h2) | exact QCd (h3) | exact QCd (h4) | exact QCd (h5) | exact QCd (h6) | exact QCd (h7)); exact rfl) | refine SX.Alloc TYok (h := ?_) | refine SX.Store TYok (h := ?_) | refine SX.Box TYok (h := ?_) | refine SC ?_ | (apply S_isnil TYok; exact rfl; exact rfl; exact rfl; exact Ev.auto; intro bn hnil) | (apply RG.gT; exact rfl; exact rfl; (first | assumption | decide)) | (apply RG.gF; exact rfl; exact rfl; (first | assumption | decide | (rw [ne_eq, Bool.not_eq_true]; assumption) | (rw [ne_eq, Bool.not_eq_false]; assumption)); exact rfl) | apply LexS.nil | (apply LexS.f; exact rfl; (first | (apply FreshV.alloc TYok; exact rfl; exact rfl; exact rfl; exact rfl) | (apply FreshV.lit TYok; (repeat (first | exact EvR.nil | apply EvR.cons Ev.auto)); exact rfl; exact rfl; exact rfl; exact rfl; exact rfl; exact rfl; exact rfl; exact rfl; exact rfl) | (apply FreshV.box; exact Ev.auto; exact rfl; exact rfl; exact rfl)); exact rfl; exact rfl; exact rfl) | (apply LexS.s; exact rfl; exact rfl; (apply StoreV.mk TYok; exact Ev.auto; exact Ev.auto; exact rfl; exact rfl; exact rfl; exact rfl; exact rfl)) | ((first | apply LexS.u | (apply LexS.g; exact rfl; exact rfl) | (apply LexS.gq; exact rfl; exact rfl)); (repeat (first | (apply NB.cons; exact rfl) | exact NB.nil rfl)); (first | (apply Q_none; exact QX.Build TYok) | exact QX.B TYok | exact QX.Ext TYok | exact QX.Build TYok | exact QCd (h0) | exact QCd (h1) | exact QCd (h2) | exact QCd (h3) | exact QCd (h4) | exact QCd (h5) | exact QCd (h6) | exact QCd (h7)); exact rfl; exact rfl; exact rfl) | (refine W.drawS (id := 5) [0, 0, 0, 4, 15, 31, 63, 63, 0, 383, 1023] [[8], [4], [5], [26], [24, 25, 27], [28], [23], [23], [], [9, 29], [30]] [(9, (9, ?_)), (8, (9, ?_))] [(9, 9), (8, 9)] mixed (by kernel_rfl) rfl ?_; rotate_left 2) | (refine W.drawS (id := 11) [0, 0, 0, 4, 15, 31, 63, 63, 0, 383, 1023] [[], [11], [5], [44], [42, 43, 45], [46], [41], [41], [], [12, 47], [48]] [(9, (12, ?_)), (8, (12, ?_))] [(9, 12), (8, 12)] mixed (by kernel_rfl) rfl ?_; rotate_left 2) | (refine W.condA (ht := fun hb => ?_) (hf := fun hb => ?_) <;> (try simp at hb) <;> (try (exfalso; omega))))
      all_goals first
        | exact Fin.ret ResL.auto
        | exact Fin.retB rfl (by simp)
        | (exfalso; omega)
        | trace_state
end
end Go.Proofs.Ytjedkgogjehigaa
end
section
set_option linter.unusedVariables false
set_option linter.unusedSimpArgs false
set_option linter.unusedSectionVars false
namespace Lf
open Go Go.RowKit Go.ChangeShapes Go.WideShapes Go.ChangeAt
def okK (T : TT) (R : Nat → Bool) (ti : TI) : Bool := match ti.kind with
  | .int _ | .bool | .string => Nat.beq ti.sz 1
  | .slice e => Nat.beq ti.sz 1 && R e && (match T e with | some te => Nat.blt 0 te.sz | none => false)
  | .struct fs => (match tile T 0 fs with | some s => Nat.beq s ti.sz | none => false) && fs.all fun f => R f.2
  | _ => false
def supR (T : TT) : Nat → Nat → Bool
  | 0, _ => true
  | n + 1, t => match T t with
    | some ti => okK T (supR T n) ti
    | none => false
def closedB (T : TT) (S : List Nat) : Bool := S.all fun t => match T t with | some ti => okK T (fun e => S.contains e) ti | none => false
theorem okK_mono {T : TT} {R R' : Nat → Bool} {ti : TI} (h : ∀ e, R e = true → R' e = true) (hk : okK T R ti = true) : okK T R' ti = true := by
  unfold okK at hk ⊢
  split at hk
  · exact hk
  · exact hk
  · exact hk
  · simp only [Bool.and_eq_true] at hk ⊢
    exact ⟨⟨hk.1.1, h _ hk.1.2⟩, hk.2⟩
  · simp only [Bool.and_eq_true, List.all_eq_true] at hk ⊢
    exact ⟨hk.1, fun f hf => h _ (hk.2 f hf)⟩
  · cases hk
theorem supR_closed {T : TT} {S : List Nat} (h : closedB T S = true) : ∀ (n t : Nat), t ∈ S → supR T n t = true
  | 0, _, _ => rfl
  | n + 1, t, ht => by
    have h1 := List.all_eq_true.1 h t ht
    rw [supR]
    cases hti : T t with
    | none => rw [hti] at h1; cases h1
    | some ti =>
      rw [hti] at h1
      exact okK_mono (fun e he => supR_closed h n e (by simpa using he)) h1
section
variable {P : Program} {T : TT} (hT : TOK P T)
include hT
theorem readR {H : Type} {enc : TypeId × Value → H} {w : World} {base : Nat} {spare : Nat → Bool} {held : Bool} : ∀ (n t fuel : Nat) (cs : List Value) (x : DataW H × List MemPlace), fuel ≤ n → supR T n t = true → DataW.trod enc P w base spare held fuel t cs = some x →
    ∃ cl, RelL (allΦ w) cs cl ∧ TyL T n t cl ∧ ∀ ti, T t = some ti → cl.length = ti.sz := by
  intro n
  induction n with
  | zero =>
    intro t fuel cs x hf hs h
    obtain rfl : fuel = 0 := by omega
    simp [DataW.trod] at h
  | succ n ih =>
    intro t fuel cs x hf hs h
    cases hti : T t with
    | none => simp [supR, hti] at hs
    | some ti =>
      have hk := (hT t ti hti).kind
      have hz := cellsOf_ti hT hti
      simp only [supR, hti, okK] at hs
      simp only [TyL, hti, Option.map_some]
      cases hkd : ti.kind with
      | int k =>
        rw [hkd] at hk hs
        obtain ⟨i, rfl, hx, hw⟩ := DataW.trod_int hk h
        exact ⟨[.int k i], ⟨.int k i, trivial⟩, ⟨i, rfl, hw⟩, fun tj hj => by obtain rfl := Option.some.inj hj; simpa using (Nat.eq_of_beq_eq_true hs).symm⟩
      | bool =>
        rw [hkd] at hk hs
        obtain ⟨b, rfl, hx⟩ := DataW.trod_bool hk h
        exact ⟨[.bool b], ⟨.bool b, trivial⟩, ⟨b, rfl⟩, fun tj hj => by obtain rfl := Option.some.inj hj; simpa using (Nat.eq_of_beq_eq_true hs).symm⟩
      | string =>
        rw [hkd] at hk hs
        obtain ⟨s, rfl, hx, hw⟩ := DataW.trod_string hk h
        refine ⟨[.str s.data.toList], ⟨.str s, trivial⟩, ⟨_, rfl, ?_⟩, fun tj hj => by obtain rfl := Option.some.inj hj; simpa using (Nat.eq_of_beq_eq_true hs).symm⟩
        rw [Array.length_toList]; exact hw
      | slice e =>
        rw [hkd] at hk hs
        simp only [Bool.and_eq_true] at hs
        obtain ⟨⟨hs1, hs2⟩, hs3⟩ := hs
        cases hte : T e with
        | none => rw [hte] at hs3; cases hs3
        | some te =>
          rw [hte] at hs3
          have hpos := blt_lt hs3
          have hze := cellsOf_ti hT hte
          have hlen1 : ∀ tj, some ti = some tj → 1 = tj.sz := fun tj hj => by obtain rfl := Option.some.inj hj; exact (Nat.eq_of_beq_eq_true hs1).symm
          rcases DataW.trod_slice hk h with ⟨rfl, hx⟩ | ⟨a, len, cap, elems, rest, m, rfl, rfl, hx, hb, hl, hm, hel, hget, _, _⟩
          · exact ⟨[.sl []], ⟨.sl0, trivial⟩, ⟨[], rfl, Nat.zero_le _, fun r hr => by cases hr⟩, hlen1⟩
          · have each : ∀ i, i < len → ∃ cl : List Cell, ∃ ci, w.cells? base (a.add (i * P.cellsOf e)) (P.cellsOf e) = some ci ∧ RelL (allΦ w) ci cl ∧ TyL T n e cl ∧ cl.length = te.sz := by
              intro i hi
              have h1 := hget i hi
              rw [List.getElem?_eq_getElem (by omega)] at h1
              cases hc : w.cells? base (a.add (i * P.cellsOf e)) (P.cellsOf e) with
              | none => rw [hc] at h1; cases h1
              | some ci =>
                rw [hc] at h1
                obtain ⟨cl, g1, g2, g3⟩ := ih e m ci _ (by omega) hs2 h1
                exact ⟨cl, ci, rfl, g1, g2, g3 te hte⟩
            obtain ⟨rows, hr1, hr2⟩ := pick_rows each
            refine ⟨[.sl rows], ⟨?_, trivial⟩, ⟨rows, rfl, by omega, fun r hr => ?_⟩, hlen1⟩
            · by_cases h0 : len = 0
              · subst h0
                obtain rfl : rows = [] := List.eq_nil_of_length_eq_zero hr1
                exact .slE a cap
              · obtain ⟨b, off, spot⟩ := a
                have cellat : ∀ i j r c, rows[i]? = some r → r[j]? = some c → ∃ v, w.cell? (Addr.add (Addr.add ⟨b, off, spot⟩ (i * te.sz)) j) = some v ∧ Rel (allΦ w) v c := by
                  intro i j r c h1 h2
                  obtain ⟨ci, g1, g2, g3, g4⟩ := hr2 i r h1
                  obtain ⟨v, hv1, hv2⟩ := g2.get h2
                  rw [hze] at g1
                  have hj : j < te.sz := by have := (List.getElem?_eq_some_iff.1 h2).1; omega
                  have := World.cells?_some g1
                  refine ⟨v, ?_, hv2⟩
                  rw [← hv1]
                  exact this.2.2 j hj
                have hrow0 : ∃ r, rows[0]? = some r := ⟨rows[0]'(by omega), List.getElem?_eq_getElem (by omega)⟩
                obtain ⟨r0, hr0⟩ := hrow0
                obtain ⟨_, _, _, _, hl0⟩ := hr2 0 r0 hr0
                obtain ⟨v0, hv0, _⟩ := cellat 0 0 r0 _ hr0 (List.getElem?_eq_getElem (show 0 < r0.length by omega))
                have hz0 : Addr.add (Addr.add ⟨b, off, spot⟩ (0 * te.sz)) 0 = ⟨b, off, spot⟩ := by simp [Addr.add]
                rw [hz0] at hv0
                have hsp : spot = none := (cell_all hv0).1
                subst hsp
                refine .sl b off len cap te.sz rows (fun i j => ((allΦ w b).bind (·[off + (i * te.sz + j)]?)).getD .nilFunc) hr1 hl (fun r hr => ?_) (fun i j r c h1 h2 => ?_) (fun i j r c h1 h2 => ?_)
                · obtain ⟨i, hi⟩ := List.getElem?_of_mem hr
                  obtain ⟨_, _, _, _, g⟩ := hr2 i r hi
                  exact g
                · obtain ⟨v, hv, _⟩ := cellat i j r c h1 h2
                  have := (cell_all hv).2
                  simp only [Addr.add_lit] at this
                  rw [show off + (i * te.sz + j) = off + i * te.sz + j by omega, this]; rfl
                · obtain ⟨v, hv, hv2⟩ := cellat i j r c h1 h2
                  have := (cell_all hv).2
                  simp only [Addr.add_lit] at this
                  rw [show off + (i * te.sz + j) = off + i * te.sz + j by omega, this]; exact hv2
            · obtain ⟨i, hi⟩ := List.getElem?_of_mem hr
              obtain ⟨_, _, _, g, _⟩ := hr2 i r hi
              exact g
      | struct fs =>
        rw [hkd] at hk hs
        obtain ⟨fields, hu, hfs⟩ := hk
        simp only [Bool.and_eq_true] at hs
        obtain ⟨hs1, hs2⟩ := hs
        cases htl : tile T 0 fs with
        | none => rw [htl] at hs1; cases hs1
        | some tot =>
          rw [htl] at hs1
          have htot := Nat.eq_of_beq_eq_true hs1
          obtain ⟨xs, m, rfl, hx, hlen, hxl, hget⟩ := DataW.trod_struct hu h
          have hall : ∀ f ∈ fs, ∃ y, DataW.trod enc P w base spare held m f.2 ((cs.drop f.1).take (P.cellsOf f.2)) = some y := by
            intro f hf
            rw [← hfs] at hf
            obtain ⟨g, hg, rfl⟩ := List.mem_map.1 hf
            obtain ⟨i, hi⟩ := List.getElem?_of_mem hg
            have hi' : fields[i]? = some g := by rw [← hi]; simp
            have hlt : i < xs.length := by rw [hxl]; exact (Array.getElem?_eq_some_iff.1 hi').1
            exact ⟨xs[i], by rw [hget i g hi', List.getElem?_eq_getElem hlt]⟩
          have main : ∀ (gs : List (Nat × Nat)) (o : Nat), (∀ f ∈ gs, ∃ y, DataW.trod enc P w base spare held m f.2 ((cs.drop f.1).take (P.cellsOf f.2)) = some y) → gs.all (fun f => supR T n f.2) = true → tile T o gs = some tot → cs.length = tot →
              ∃ cl, RelL (allΦ w) (cs.drop o) cl ∧ TyS (TyL T n) gs cl ∧ o + cl.length = tot := by
            intro gs
            induction gs with
            | nil =>
              intro o _ _ h1 h2
              simp only [tile, Option.some.injEq] at h1
              refine ⟨[], ?_, rfl, by simp [h1]⟩
              rw [List.drop_eq_nil_of_le (by omega)]
              trivial
            | cons f gs ihs =>
              intro o hall' hsup h1 h2
              obtain ⟨fo, ft⟩ := f
              rw [tile] at h1
              cases hbe : Nat.beq fo o with
              | false => rw [hbe] at h1; cases h1
              | true =>
                have := Nat.eq_of_beq_eq_true hbe
                subst this
                rw [hbe, cond_true] at h1
                cases htf : T ft with
                | none => rw [htf] at h1; cases h1
                | some tf =>
                  rw [htf] at h1
                  simp only [Option.bind_some] at h1
                  simp only [List.all_cons, Bool.and_eq_true] at hsup
                  obtain ⟨y, hy⟩ := hall' _ (List.mem_cons_self ..)
                  obtain ⟨c1, a1, a2, a3⟩ := ih ft m _ y (by omega) hsup.1 hy
                  obtain ⟨c2, b1, b2, b3⟩ := ihs (fo + tf.sz) (fun g hg => hall' g (List.mem_cons_of_mem _ hg)) hsup.2 h1 h2
                  have hl1 := a3 tf htf
                  refine ⟨c1 ++ c2, ?_, ⟨c1, c2, rfl, a2, b2⟩, by simp; omega⟩
                  have e : cs.drop fo = (cs.drop fo).take tf.sz ++ cs.drop (fo + tf.sz) := by
                    rw [← List.drop_drop, List.take_append_drop]
                  rw [e]
                  rw [cellsOf_ti hT htf] at a1
                  exact a1.append b1
          obtain ⟨cl, c1, c2, c3⟩ := main fs 0 hall hs2 htl (by rw [hlen, hz, htot])
          refine ⟨cl, by simpa using c1, c2, fun tj hj => ?_⟩
          obtain rfl := Option.some.inj hj
          omega
      | array k e => rw [hkd] at hs; cases hs
      | ptr e => rw [hkd] at hs; cases hs
      | map k e => rw [hkd] at hs; cases hs
      | func => rw [hkd] at hs; cases hs
      | iface => rw [hkd] at hs; cases hs
      | other => rw [hkd] at hs; cases hs
/-- A slice that came in. -/
theorem readR_slice {H : Type} {enc : TypeId × Value → H} {w : World} {base b0 : Nat} {spare : Nat → Bool} {held : Bool} {r : Reach} {t e : Nat} {v : Value} {d : DataW H} {ps : List MemPlace} {S : List Nat} (hS : closedB T S = true) (hm : t ∈ S) (hu : P.underlying t = some (.slice e))
    (hval : Value.okWide P w r b0 t v) (hd : DataW.Trod enc P w base spare held t v d ps) : ∃ n c, Rel (allΦ w) v c ∧ TyL T n t [c] := by
  obtain ⟨a, len, cap, rfl⟩ := okWide_slice hu hval
  obtain ⟨fuel, hf⟩ := hd
  obtain ⟨cl, h1, h2, _⟩ := readR hT fuel t fuel _ _ (Nat.le_refl _) (supR_closed hS _ _ hm) hf
  simp only [Value.cells] at h1
  match cl, h1, h2 with
  | [c], h1, h2 => exact ⟨_, c, h1.1, h2⟩
/-- A struct that came in. -/
theorem readR_struct {H : Type} {enc : TypeId × Value → H} {w : World} {base b0 : Nat} {spare : Nat → Bool} {held : Bool} {r : Reach} {t : Nat} {fs : Array Field} {v : Value} {d : DataW H} {ps : List MemPlace} {S : List Nat} (hS : closedB T S = true) (hm : t ∈ S) (hu : P.underlying t = some (.struct fs))
    (hval : Value.okWide P w r b0 t v) (hd : DataW.Trod enc P w base spare held t v d ps) : ∃ n cs, PRel (allΦ w) v (.agg cs) ∧ TyL T n t cs := by
  obtain ⟨arr, rfl, _⟩ := okWide_struct hu hval
  obtain ⟨fuel, hf⟩ := hd
  obtain ⟨cl, h1, h2, _⟩ := readR hT fuel t fuel _ _ (Nat.le_refl _) (supR_closed hS _ _ hm) hf
  exact ⟨_, cl, ⟨arr, rfl, h1⟩, h2⟩
end
end Lf
end
section
namespace Go.Proofs.Ytjedkgogjehigaa
open Lf Go
theorem exp_of : ∀ (n : Nat) {cs : List Cell}, TyL TY n 25 cs → ∃ e : Exp, cs = encX e ∧ OkE e
  | 0, cs, h => h.elim
  | 1, cs, h => by
    obtain ⟨a1, b1, rfl, t1, -⟩ : ∃ a1 b1, cs = a1 ++ b1 ∧ TyL TY 0 3 a1 ∧ True := by
      obtain ⟨a1, b1, h1, h2, _⟩ := h; exact ⟨a1, b1, h1, h2, trivial⟩
    exact t1.elim
  | n + 2, cs, h => by
    obtain ⟨a1, b1, rfl, t1, a2, b2, rfl, t2, a3, b3, rfl, t3, a4, b4, rfl, t4, a5, b5, rfl, t5, rfl⟩ : ∃ a1 b1, cs = a1 ++ b1 ∧ TyL TY (n + 1) 3 a1 ∧ ∃ a2 b2, b1 = a2 ++ b2 ∧ TyL TY (n + 1) 3 a2 ∧ ∃ a3 b3, b2 = a3 ++ b3 ∧ TyL TY (n + 1) 3 a3 ∧ ∃ a4 b4, b3 = a4 ++ b4 ∧ TyL TY (n + 1) 9 a4 ∧ ∃ a5 b5, b4 = a5 ++ b5 ∧ TyL TY (n + 1) 23 a5 ∧ b5 = [] := h
    obtain ⟨i1, rfl, _⟩ : ∃ i, a1 = [.int .i64 i] ∧ (Lit.int .i64 i).wf = true := t1
    obtain ⟨i2, rfl, _⟩ : ∃ i, a2 = [.int .i64 i] ∧ (Lit.int .i64 i).wf = true := t2
    obtain ⟨i3, rfl, _⟩ : ∃ i, a3 = [.int .i64 i] ∧ (Lit.int .i64 i).wf = true := t3
    obtain ⟨s, rfl, hs⟩ : ∃ s, a4 = [.str s] ∧ s.length ≤ maxLen := t4
    obtain ⟨rows, rfl, hl, hr⟩ : ∃ rows, a5 = [Cell.sl rows] ∧ rows.length ≤ maxLen ∧ ∀ r ∈ rows, TyL TY n 25 r := t5
    obtain ⟨l, rfl, ho⟩ := rows_map (f := encX) (p := OkE) fun r hr' => exp_of n (hr r hr')
    refine ⟨.mk i1 i2 i3 s l, ?_, .mk (by unfold maxLen at hs; omega) (by simp only [List.length_map] at hl; unfold maxLen at hl; omega) ho⟩
    have := aE_mk i1 i2 i3 s l
    injection this with this
    exact this.symm
theorem let_of : ∀ (n : Nat) {cs : List Cell}, TyL TY n 56 cs → ∃ x : Let, cs = encL x ∧ OkE x.body
  | 0, cs, h => h.elim
  | 1, cs, h => by
    obtain ⟨a1, b1, rfl, t1, -⟩ : ∃ a1 b1, cs = a1 ++ b1 ∧ TyL TY 0 9 a1 ∧ True := by
      obtain ⟨a1, b1, h1, h2, _⟩ := h; exact ⟨a1, b1, h1, h2, trivial⟩
    exact t1.elim
  | n + 2, cs, h => by
    obtain ⟨a1, b1, rfl, t1, a2, b2, rfl, t2, rfl⟩ : ∃ a1 b1, cs = a1 ++ b1 ∧ TyL TY (n + 1) 9 a1 ∧ ∃ a2 b2, b1 = a2 ++ b2 ∧ TyL TY (n + 1) 25 a2 ∧ b2 = [] := h
    obtain ⟨s, rfl, hs⟩ : ∃ s, a1 = [.str s] ∧ s.length ≤ maxLen := t1
    obtain ⟨e, rfl, he⟩ := exp_of _ t2
    exact ⟨⟨s, e⟩, rfl, he⟩
theorem lets_in : ∀ (n : Nat) {c : Cell}, TyL TY n 22 [c] → ∃ l : List Let, c = .sl (l.map encL) ∧ LIn l
  | 0, c, h => h.elim
  | n + 1, c, h => by
    obtain ⟨rows, h1, hl, h3⟩ : ∃ rows, [c] = [Cell.sl rows] ∧ rows.length ≤ maxLen ∧ ∀ r ∈ rows, TyL TY n 56 r := h
    obtain rfl := (List.cons.inj h1).1
    obtain ⟨l, rfl, ho⟩ := rows_map (f := encL) (p := fun y => OkE y.body) fun r hr => let_of n (h3 r hr)
    exact ⟨l, rfl, by simp only [List.length_map] at hl; unfold maxLen at hl; omega, ho⟩
theorem int_of1 {n : Nat} {cs : List Cell} (h : TyL TY (n + 1) 3 cs) : ∃ i : Int, cs = Lf.encI i ∧ True := by
  obtain ⟨i, rfl, _⟩ : ∃ i, cs = [.int .i64 i] ∧ (Lit.int .i64 i).wf = true := h
  exact ⟨i, rfl, trivial⟩
structure BV where
  s : Int
  l : List Int
abbrev encBV (b : BV) : List Cell := [.int .i64 b.s, .sl (b.l.map Lf.encI)]
theorem big_of {n : Nat} {cs : List Cell} (h : TyL TY (n + 3) 38 cs) : ∃ b : BV, cs = encBV b ∧ b.l.length ≤ 9223372036854775807 := by
  obtain ⟨a1, b1, rfl, t1, a2, b2, rfl, t2, rfl⟩ : ∃ a1 b1, cs = a1 ++ b1 ∧ TyL TY (n + 2) 3 a1 ∧ ∃ a2 b2, b1 = a2 ++ b2 ∧ TyL TY (n + 2) 36 a2 ∧ b2 = [] := h
  obtain ⟨s, rfl, _⟩ : ∃ i, a1 = [.int .i64 i] ∧ (Lit.int .i64 i).wf = true := t1
  obtain ⟨rows, rfl, hl, h3⟩ : ∃ rows, a2 = [Cell.sl rows] ∧ rows.length ≤ maxLen ∧ ∀ r ∈ rows, TyL TY (n + 1) 3 r := t2
  obtain ⟨l, rfl, _⟩ := rows_map (f := Lf.encI) (p := fun _ => True) fun r hr => int_of1 (h3 r hr)
  exact ⟨⟨s, l⟩, rfl, by simp only [List.length_map] at hl; unfold maxLen at hl; omega⟩
theorem fq_of {n : Nat} {cs : List Cell} (h : TyL TY (n + 4) 40 cs) : ∃ f : Fq, cs = encF f ∧ FqOk f := by
  obtain ⟨a1, b1, rfl, t1, a2, b2, rfl, t2, rfl⟩ : ∃ a1 b1, cs = a1 ++ b1 ∧ TyL TY (n + 3) 38 a1 ∧ ∃ a2 b2, b1 = a2 ++ b2 ∧ TyL TY (n + 3) 38 a2 ∧ b2 = [] := h
  obtain ⟨x, rfl, hx⟩ := big_of t1
  obtain ⟨y, rfl, hy⟩ := big_of t2
  exact ⟨⟨x.s, x.l, y.s, y.l⟩, rfl, hx, hy⟩
theorem fqs_of {n : Nat} {cs : List Cell} (h : TyL TY (n + 5) 27 cs) : ∃ l : List Fq, cs = [.sl (l.map encF)] ∧ l.length ≤ 9223372036854775807 ∧ ∀ q ∈ l, FqOk q := by
  obtain ⟨rows, rfl, hl, h3⟩ : ∃ rows, cs = [Cell.sl rows] ∧ rows.length ≤ maxLen ∧ ∀ r ∈ rows, TyL TY (n + 4) 40 r := h
  obtain ⟨l, rfl, hq⟩ := rows_map (f := encF) (p := fun f => FqOk f) fun r hr => fq_of (n := n) (h3 r hr)
  exact ⟨l, rfl, by simp only [List.length_map] at hl; unfold maxLen at hl; omega, hq⟩
theorem str_of {n : Nat} {cs : List Cell} (h : TyL TY (n + 1) 9 cs) : ∃ x : Str, cs = encS x ∧ True := by
  obtain ⟨s, rfl, _⟩ : ∃ s, cs = [.str s] ∧ s.length ≤ maxLen := h
  exact ⟨s, rfl, trivial⟩
theorem strs_of {n : Nat} {cs : List Cell} (h : TyL TY (n + 2) 26 cs) : ∃ l : List Str, cs = [.sl (l.map encS)] ∧ l.length ≤ 9223372036854775807 := by
  obtain ⟨rows, rfl, hl, h3⟩ : ∃ rows, cs = [Cell.sl rows] ∧ rows.length ≤ maxLen ∧ ∀ r ∈ rows, TyL TY (n + 1) 9 r := h
  obtain ⟨l, rfl, _⟩ := rows_map (f := encS) (p := fun _ => True) fun r hr => str_of (n := n) (h3 r hr)
  exact ⟨l, rfl, by simp only [List.length_map] at hl; unfold maxLen at hl; omega⟩
theorem env_in {cs : List Cell} (h : TyL TY 6 29 cs) : ∃ v : EnvV, cs = encEnv v ∧ v.Len := by
  obtain ⟨a1, b1, rfl, t1, a2, b2, rfl, t2, a3, b3, rfl, t3, a4, b4, rfl, t4, rfl⟩ : ∃ a1 b1, cs = a1 ++ b1 ∧ TyL TY 5 26 a1 ∧ ∃ a2 b2, b1 = a2 ++ b2 ∧ TyL TY 5 27 a2 ∧ ∃ a3 b3, b2 = a3 ++ b3 ∧ TyL TY 5 26 a3 ∧ ∃ a4 b4, b3 = a4 ++ b4 ∧ TyL TY 5 27 a4 ∧ b4 = [] := h
  obtain ⟨N, rfl, n1⟩ := strs_of (n := 3) t1
  obtain ⟨V, rfl, n2, o2⟩ := fqs_of (n := 0) t2
  obtain ⟨I, rfl, n3⟩ := strs_of (n := 3) t3
  obtain ⟨R, rfl, n4, o4⟩ := fqs_of (n := 0) t4
  exact ⟨⟨N, V, I, R⟩, rfl, ⟨n1, n2, n3, n4, o2, o4⟩⟩
end Go.Proofs.Ytjedkgogjehigaa
end
section
namespace Go.Proofs.Ytjedkgogjehigaa
open Lf Go Go.ChangeShapes Go.WideShapes Go.ChangeAt Go.RowKit
namespace NamesRow
theorem own : ownKnob Try.prog.godebug = none := by kernel_rfl
theorem laidOut : laidOutB Try.prog = true := by kernel_rfl
set_option maxRecDepth 100000 in
theorem lifted (os : Os) (started : os.Started) (H : Type) (enc : TypeId × Value → H) :
    ReturnsInHanded {} Try.checked os 3 .any (Rows.evalNamesSpec.pre6 enc Try.prog Try.f3 Rows.evalNamesRow.domain false) (Rows.evalNamesSpec.post enc Try.prog Try.f3 false true false false) := by
  refine returnsInHanded_of_change (C := Try.checked) own started (by kernel_rfl) Try.func3
    (ChangeSpec.witness6 (enc := enc) (C := Try.checked) false ⟨#[], #[.slice none 0 0, .agg #[.int .i64 0, .int .i64 0, .int .i64 0, .string ⟨#[]⟩, .slice none 0 0], .agg #[.slice none 0 0, .slice none 0 0, .slice none 0 0, .slice none 0 0]], []⟩ 8 (by kernel_rfl) (by kernel_rfl) (by kernel_rfl) (by kernel_rfl)) ?_
  intro W base args ds gs before hval0 hW hcnd _
  have hval : ∀ (j : Nat) t v, Try.f3.params[j]? = some t → args[j]? = some v → Value.okWide Try.prog W .any base t v := hval0
  have hW' := hW
  obtain ⟨p, q, hA0, hV, rfl, hfz, hnd⟩ := hW
  have hA : DataW.TrodAll enc Try.prog W 0 (fun _ => true) true Try.f3.params.toList args.toList ds p := hA0
  rw [Try.params3] at hA hval
  obtain ⟨v0, vs0, d0, ds0, p0, q0, hargs, rfl, rfl, h0, r0⟩ := trodAll_cons hA
  obtain ⟨v1, vs1, d1, ds1, p1, q1, rfl, rfl, rfl, h1, r1⟩ := trodAll_cons r0
  obtain ⟨v2, vs2, d2, ds2, p2, q2, rfl, rfl, rfl, h2, r2⟩ := trodAll_cons r1
  obtain ⟨rfl, rfl, rfl⟩ := trodAll_nil r2
  obtain rfl : args = #[v0, v1, v2] := by cases args; simp_all
  obtain ⟨rfl, rfl⟩ := trodVars_none hV
  have k0 := h0
  have lt0 : ∀ x ∈ p0, x.block < W.heap.size := by obtain ⟨m, hm⟩ := k0; exact DataW.trod_lt m _ _ _ hm
  obtain ⟨n0, c0, rel0, ty0⟩ := readR_slice TYok (S := [22,56,25,23,9,3]) (by kernel_rfl) (by simp) Try.underlying22 (hval 0 22 v0 rfl rfl) h0
  obtain ⟨a0, rfl, w0⟩ := lets_in _ ty0
  have k1 := h1
  have lt1 : ∀ x ∈ p1, x.block < W.heap.size := by obtain ⟨m, hm⟩ := k1; exact DataW.trod_lt m _ _ _ hm
  obtain ⟨n1, c1, rel1, ty1⟩ := readR_struct TYok (S := [25,23,9,3]) (by kernel_rfl) (by simp) Try.underlying25 (hval 1 25 v1 rfl rfl) h1
  obtain ⟨a1, rfl, w1⟩ := exp_of _ ty1
  have k2 := h2
  have lt2 : ∀ x ∈ p2, x.block < W.heap.size := by obtain ⟨m, hm⟩ := k2; exact DataW.trod_lt m _ _ _ hm
  obtain ⟨c2, rel2, ty2⟩ := read_struct TYok 6 Try.underlying29 (by kernel_rfl) (hval 2 29 v2 rfl rfl) h2
  obtain ⟨a2, rfl, w2⟩ := env_in ty2
  clear hA0 hval0
  have hc := (names_ok w0 a1 w1 a2 w2).calls (allΦ W) W #[v0, v1, v2] (fits_all W)
    (ArgsRel.of (ArgsL.cons rel0 (ArgsL.cons rel1 (ArgsL.cons rel2 ArgsL.nil))))
  refine hc.mono fun e W' ⟨v, Φ', he, hv, _, _, _, bel⟩ => ?_
  subst he
  obtain rfl : v = .bool true := AVRel.bool hv
  exact ⟨_, rfl, _, _, _, [], _, [], hW', trodAll_mk1 (shut_bool Try.underlying4 _), (trodAll_cons_mk (Below.trod laidOut (by kernel_rfl) (of_decide_eq_true (by kernel_rfl)) k0 bel lt0) (trodAll_cons_mk (Below.trod laidOut (by kernel_rfl) (of_decide_eq_true (by kernel_rfl)) k1 bel lt1) (trodAll_cons_mk (Below.trod laidOut (by kernel_rfl) (of_decide_eq_true (by kernel_rfl)) k2 bel lt2) trodAll_mk0))), rfl, bel.frame _, fun h => by cases h⟩
theorem over : Rows.evalNamesRow.holds Try.pinned (OpenSpec.ofChange Rows.evalNamesSpec) :=
  OpenClaim.holds_of_wide 3 Try.f3 rfl rfl rfl rfl rfl rfl rfl ⟨rfl, rfl, rfl, rfl, rfl⟩ rfl rfl rfl rfl rfl (by kernel_rfl) Try.func3 (by kernel_rfl)
    (of_decide_eq_true (by kernel_rfl)) (by unfold Func.isWrapper; first | (rw [if_pos (by decide +kernel)]; kernel_rfl) | (rw [if_neg (by decide +kernel)]; exact ⟨rfl, rfl⟩))
    (fun os started H enc _ => lifted os started H enc)
end NamesRow
theorem evalNames_proved : Rows.EvalNamesSaid := NamesRow.over
end Go.Proofs.Ytjedkgogjehigaa
end
