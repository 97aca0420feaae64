/-
  EvalOrder: the row: what came in is read, the contract of the function gives true, and what came in stands.
-/
import Derived.Test.YtjedkgogjehigaaOS11
import Derived.Test.YtjedkgogjehigaaOS07
import Derived.Test.YtjedkgogjehigaaOS08
import Derived.Test.YtjedkgogjehigaaOS10
section
set_option linter.unusedVariables false
set_option linter.unusedSimpArgs false
set_option maxHeartbeats 8000000
set_option linter.unusedSectionVars false
namespace Go.Proofs.Ytjedkgogjehigaa
open Lf Go
attribute [local irreducible] PureOp EffOp Ev RG W Then InBlock Lf.Fin nth App InitE Pick SubE EvL EvD EvP EvR ResL Lf.Lex SubR SubBR EvC FinO FinM ResM ResD FinS val pw digs trimL
section
def fewF (lets : List Let) (e : Exp) (v : EnvV) : Bool := (fewL lets && fewE e 31) && fewV v
theorem few_ok {lets : List Let} (hl : LIn lets) (e : Exp) (he : OkE e) (v : EnvV) (hv : v.Len) : ACalls Try.prog 7 [xV lets, aE e, vV v] (.pv (cB (fewF lets e v))) := by
  have c1 := fewL_ok hl
  have c2 := fewE_ok e he 31 (by omega) (by omega)
  have c3 := fewV_ok v hv
  unfold fewF
  generalize fewL lets = b1 at *
  generalize fewE e 31 = b2 at *
  generalize fewV v = b3 at *
  obtain ⟨op, k, u, s, l⟩ := e
  obtain ⟨N, V, I, R⟩ := v
  refine ACalls.of_W (qs := [cB ((b1 && b2) && b3)]) [6] 18 Try.func7 (by kernel_rfl) rfl rfl rfl fun G => ?_
  refine W.initA (hw := ?_)
  repeat' (first | ((first | apply U_ | (apply Ug_; exact rfl; exact rfl) | (apply Ugq_; exact rfl; exact rfl)); (first | exact QX.B TYok | exact QCd (c1) | exact QCd (c2) | exact QCd (c3)); exact rfl) | refine SX.Box TYok (h := ?_) | refine SC ?_ | (apply RG.gT; exact rfl; exact rfl; (first | assumption | decide)) | (apply RG.gF; exact rfl; exact rfl; (first | assumption | decide | (rw [ne_eq, Bool.not_eq_true]; assumption) | (rw [ne_eq, Bool.not_eq_false]; assumption)); exact rfl) | (refine W.condA (ht := fun hb => ?_) (hf := fun hb => ?_) <;> (try simp at hb) <;> (try (exfalso; omega))))
  all_goals exact Fin.ret ResL.auto
theorem env_ok (v : EnvV) : ACalls Try.prog 9 [vV v] (.pv (vV v)) := by
  obtain ⟨N, V, I, R⟩ := v
  refine ACalls.of_M TYok (qs := [.agg [.sl (N.map encS), .sl (V.map encF), .sl (I.map encS), .sl (R.map encF)]]) [.cell 2 44] 12 Try.func9 (by kernel_rfl) rfl rfl rfl fun G => ?_
  refine W.initA (hw := ?_)
  repeat' (first | ((first | apply U_); (first | exact QX.B TYok | exact QX.Build TYok); exact rfl) | refine SX.Alloc TYok (h := ?_) | refine SX.Store TYok (h := ?_) | refine SX.Box TYok (h := ?_) | refine SC ?_ | (refine W.condA (ht := fun hb => ?_) (hf := fun hb => ?_) <;> (try simp at hb) <;> (try (exfalso; omega))))
  all_goals exact FinM.ret ResM.auto
def nodeE (op : Int) (a b : Exp) : Exp := .mk op 0 0 [] [a, b]
theorem node_ok (op : Int) (a b : Exp) : ACalls Try.prog 15 [cI op, aE a, aE b] (.pv (aE (nodeE op a b))) := by
  rw [show aE (nodeE op a b) = .agg [.int .i64 op, .int .i64 0, .int .i64 0, .str [], .sl [encX a, encX b]] from aE_mk ..]
  refine ACalls.of_M TYok (qs := [.agg [.int .i64 op, .int .i64 0, .int .i64 0, .str [], .sl [encX a, encX b]]]) [.cell 6 25] 12 Try.func15 (by kernel_rfl) rfl rfl rfl fun G => ?_
  refine W.initA (hw := ?_)
  repeat' (first | ((first | apply U_); (first | (apply Q_litD TYok; apply EvR.cons Ev.auto; (repeat (first | exact EvR.nil | apply EvR.cons Ev.auto)); exact rfl; exact rfl; exact rfl; exact rfl; exact rfl; exact rfl) | exact QX.B TYok | exact QX.Build TYok); exact rfl) | refine SX.Alloc TYok (h := ?_) | refine SX.Store TYok (h := ?_) | refine SX.Lit TYok (h := ?_) | refine SX.Box TYok (h := ?_) | refine SC ?_ | (refine W.condA (ht := fun hb => ?_) (hf := fun hb => ?_) <;> (try simp at hb) <;> (try (exfalso; omega))))
  all_goals exact FinM.ret ResM.auto
theorem okNode {op : Int} {a b : Exp} (ha : OkE a) (hb : OkE b) : OkE (nodeE op a b) := .mk (by decide) (by simp) (fun x hx => by
  rcases List.mem_cons.1 hx with rfl | hx
  · exact ha
  · rw [List.mem_singleton.1 hx]; exact hb)
attribute [local irreducible] sgn mag gcdZ quoZ remZ fullZ fullE
theorem of_ok (n m : Int) (h : i64B n) (hm : i64B m) (h0 : m ≠ 0) : ACalls Try.prog 16 [cI n, cI m] (.pv (zF (Rat.divInt n m))) := by
  have n1 := qof_ok n m h hm h0
  generalize Rat.divInt n m = r at *
  refine ACalls.of_M TYok (qs := [zF r]) [.cell 4 40] 14 Try.func16 (by kernel_rfl) rfl rfl rfl fun G => ?_
  refine W.initA (hw := ?_)
  repeat' (first | ((first | apply U_); (first | exact QX.B TYok | exact QX.Ext TYok | exact QCd (n1)); exact rfl) | refine SX.Alloc TYok (h := ?_) | refine SX.Store TYok (h := ?_) | refine SC ?_ | (refine W.condA (ht := fun hb => ?_) (hf := fun hb => ?_) <;> (try simp at hb) <;> (try (exfalso; omega))))
  all_goals exact FinM.ret ResM.auto
theorem same0_ok : ACalls Try.prog 12 [zF0, zF0] (.pv (cB true)) := by
  have s1 := sameBig_ok 0 0 [] [] (by simp) (by simp)
  rw [show (decide ((0 : Int) = 0) && decide (([] : List Int) = [])) = true by decide] at s1
  refine ACalls.of_W (qs := [cB true]) [4] 17 Try.func12 (by kernel_rfl) rfl rfl rfl fun G => ?_
  refine W.initA (hw := ?_)
  repeat' (first | ((first | apply U_ | (apply Ug_; exact rfl; exact rfl) | (apply Ugq_; exact rfl; exact rfl)); (first | exact QX.B TYok | exact QCd (s1)); exact rfl) | refine SX.Box TYok (h := ?_) | refine SC ?_ | (apply RG.gT; exact rfl; exact rfl; (first | assumption | decide)) | (apply RG.gF; exact rfl; exact rfl; (first | assumption | decide | (rw [ne_eq, Bool.not_eq_true]; assumption) | (rw [ne_eq, Bool.not_eq_false]; assumption)); exact rfl) | (refine W.condA (ht := fun hb => ?_) (hf := fun hb => ?_) <;> (try simp at hb) <;> (try (exfalso; omega))))
  all_goals exact Fin.ret ResL.auto
theorem sameV_ok (R : Rs) (h : R.fit) : ACalls Try.prog 12 [R.v, R.v] (.pv (cB true)) := by
  cases R with
  | ok r =>
    have := same_ok r r h h
    rwa [decide_eq_true rfl] at this
  | err e => exact same0_ok
def rN : Rat := Rat.divInt 300 1
def rM : Rat := Rat.divInt 100 1
def rA : Rat := Rat.divInt 1 20
def offQ : EnvQ := ⟨[[100, 101, 98, 116], [99, 97, 115, 104]], [rN, rM], [[97]], [rA]⟩
theorem ix {n : Int} (h : -1000 ≤ n ∧ n ≤ 1000) : i64B n := by unfold i64B; omega
theorem okC {n m : Int} (h : -1000 ≤ n ∧ n ≤ 1000) (hm : -1000 ≤ m ∧ m ≤ 1000) (h0 : m ≠ 0) : okF (Rat.divInt n m) := okF_of (i64_ok (ix h)) (i64_ok (ix hm)) h0
theorem offQ_ok : offQ.Ok := ⟨fun r hr => by
    rcases List.mem_cons.1 hr with rfl | hr
    · exact okC (by omega) (by omega) (by omega)
    · rw [List.mem_singleton.1 hr]; exact okC (by omega) (by omega) (by omega), fun r hr => by
    rw [List.mem_singleton.1 hr]; exact okC (by omega) (by omega) (by omega), rfl, rfl, by decide, by decide⟩
theorem office_ok : ACalls Try.prog 21 [] (.pv (vV offQ.V)) := by
  rw [vV_q]
  have o1 := of_ok 300 1 (ix (by omega)) (ix (by omega)) (by omega)
  have o2 := of_ok 100 1 (ix (by omega)) (ix (by omega)) (by omega)
  have o3 := of_ok 1 20 (ix (by omega)) (ix (by omega)) (by omega)
  show ACalls Try.prog 21 [] (.pv (.agg [.sl [encS [100, 101, 98, 116], encS [99, 97, 115, 104]], .sl [encQ rN, encQ rM], .sl [encS [97]], .sl [encQ rA]]))
  change ACalls Try.prog 16 _ (.pv (zF rN)) at o1
  change ACalls Try.prog 16 _ (.pv (zF rM)) at o2
  change ACalls Try.prog 16 _ (.pv (zF rA)) at o3
  generalize rN = r1 at *
  generalize rM = r2 at *
  generalize rA = r3 at *
  refine ACalls.of_M TYok (qs := [.agg [.sl [encS [100, 101, 98, 116], encS [99, 97, 115, 104]], .sl [encQ r1, encQ r2], .sl [encS [97]], .sl [encQ r3]]]) [.cell 0 29] 9 Try.func21 (by kernel_rfl) rfl rfl rfl fun G => ?_
  refine W.initA (hw := ?_)
  repeat' (first | ((first | apply U_); (first | (apply Q_litD TYok; apply EvR.cons Ev.auto; (repeat (first | exact EvR.nil | apply EvR.cons Ev.auto)); exact rfl; exact rfl; exact rfl; exact rfl; exact rfl; exact rfl) | exact QX.B TYok | exact QX.Build TYok | exact QCd (o1) | exact QCd (o2) | exact QCd (o3)); exact rfl) | refine SX.Alloc TYok (h := ?_) | refine SX.Store TYok (h := ?_) | refine SX.Lit TYok (h := ?_) | refine SC ?_ | (refine W.condA (ht := fun hb => ?_) (hf := fun hb => ?_) <;> (try simp at hb) <;> (try (exfalso; omega))))
  all_goals exact FinM.ret ResM.auto
end
end Go.Proofs.Ytjedkgogjehigaa
end
section
set_option linter.unusedVariables false
set_option linter.unusedSimpArgs false
set_option maxHeartbeats 8000000
set_option linter.unusedSectionVars false
namespace Go.Proofs.Ytjedkgogjehigaa
open Lf Go
attribute [local irreducible] PureOp EffOp Ev RG W Then InBlock Lf.Fin nth App InitE Pick SubE EvL EvD EvP EvR ResL Lf.Lex SubR SubBR EvC FinO FinM ResM ResD FinS val pw digs trimL
section
instance (x : Int) : Decidable (okZ x) := by unfold okZ; infer_instance
instance (a b : Rat) : Decidable (divOk a b) := by unfold divOk; infer_instance
instance (a b c d : Int) : Decidable (sumOk a b c d) := by unfold sumOk; infer_instance
instance (a b : Rat) : Decidable (addOk a b) := by unfold addOk; infer_instance
instance : DecidableEq Rs := fun a b => match a, b with
  | .ok x, .ok y => if h : x = y then isTrue (by rw [h]) else isFalse (fun e => h (by injection e))
  | .err x, .err y => if h : x = y then isTrue (by rw [h]) else isFalse (fun e => h (by injection e))
  | .ok _, .err _ => isFalse (fun e => by injection e)
  | .err _, .ok _ => isFalse (fun e => by injection e)
theorem bin4 (a b : Rat) : binF 4 a b = addR a b := by unfold binF; rw [if_pos rfl]
theorem bin5 (a b : Rat) : binF 5 a b = subR a b := by unfold binF; rw [if_neg (by omega), if_pos rfl]
theorem bin6 (a b : Rat) : binF 6 a b = mulR a b := by unfold binF; rw [if_neg (by omega), if_neg (by omega), if_pos rfl]
theorem bin7 (a b : Rat) : binF 7 a b = divR a b := by unfold binF; rw [if_neg (by omega), if_neg (by omega), if_neg (by omega), if_pos rfl]
theorem bin8 (a b : Rat) : binF 8 a b = .ok (if cmpR a b ≤ 0 then a else b) := by unfold binF; rw [if_neg (by omega), if_neg (by omega), if_neg (by omega), if_neg (by omega), if_pos rfl]
theorem bin9 (a b : Rat) : binF 9 a b = .ok (if cmpR a b ≤ 0 then b else a) := by unfold binF; rw [if_neg (by omega), if_neg (by omega), if_neg (by omega), if_neg (by omega), if_neg (by omega), if_pos rfl]
theorem bin10 (a b : Rat) : binF 10 a b = .ok (one01 (decide (cmpR a b < 0))) := by unfold binF; rw [if_neg (by omega), if_neg (by omega), if_neg (by omega), if_neg (by omega), if_neg (by omega), if_neg (by omega), if_pos rfl]
theorem bin11 (a b : Rat) : binF 11 a b = .ok (one01 (decide (cmpR a b = 0))) := by unfold binF; rw [if_neg (by omega), if_neg (by omega), if_neg (by omega), if_neg (by omega), if_neg (by omega), if_neg (by omega), if_neg (by omega), if_pos rfl]
theorem divR_yes {a b : Rat} (h0 : b.num ≠ 0) (h : divOk a b) : divR a b = .ok (a / b) := by unfold divR; rw [if_neg h0, if_pos h]
theorem divR_zero {a b : Rat} (h0 : b.num = 0) : divR a b = .err 15 := by unfold divR; rw [if_pos h0]
theorem addR_yes {a b : Rat} (h : addOk a b) : addR a b = .ok (a + b) := by unfold addR; rw [if_pos h]
theorem nth0 {α : Type} [Inhabited α] (x : α) (l : List α) : nth (x :: l) 0 = x := by rw [nth]; rfl
theorem nth1 {α : Type} [Inhabited α] (x y : α) (l : List α) : nth (x :: y :: l) 1 = y := by rw [nth]; rfl
theorem nth2 {α : Type} [Inhabited α] (x y z : α) (l : List α) : nth (x :: y :: z :: l) 2 = z := by rw [nth]; rfl
variable {lets : List Let} {en : EnvQ} {vs : List Rs}
theorem ev_num (n u : Int) (s : Str) (l : List Exp) : evF lets en vs (.mk 0 n u s l) = .ok (if u = 2 then Rat.divInt n 1000 else Rat.divInt n 1) := by rw [evF_mk, stepF, if_pos rfl]
theorem ev_name (n u : Int) (s : Str) (l : List Exp) : evF lets en vs (.mk 1 n u s l) = lookN lets vs s := by rw [evF_mk, stepF, if_neg (by omega), if_pos rfl]
theorem ev_fact (n u : Int) (s : Str) (l : List Exp) : evF lets en vs (.mk 2 n u s l) = lookF en.names en.vals s := by rw [evF_mk, stepF, if_neg (by omega), if_neg (by omega), if_pos rfl]
theorem ev_rate (n u : Int) (s : Str) (l : List Exp) : evF lets en vs (.mk 3 n u s l) = lookF en.iss en.rates s := by rw [evF_mk, stepF, if_neg (by omega), if_neg (by omega), if_neg (by omega), if_pos rfl]
theorem ev_two {op : Int} {a b : Exp} {p q : Rat} (h : 4 ≤ op ∧ op ≤ 11) (ha : evF lets en vs a = .ok p) (hb : evF lets en vs b = .ok q) : evF lets en vs (nodeE op a b) = binF op p q := by
  rw [nodeE, evF_mk, stepF, if_neg (by omega), if_neg (by omega), if_neg (by omega), if_neg (by omega), List.map_cons, List.map_cons, List.map_nil, nth0, ha]
  dsimp only
  rw [if_neg (by omega), if_neg (by omega), if_neg (by omega), nth1, hb]
theorem ev_if {c a b : Exp} : evF lets en vs (.mk 15 0 0 [] [c, a, b]) = match evF lets en vs c with | .err e => .err e | .ok w => if sgn w.num = 0 then evF lets en vs b else evF lets en vs a := by
  rw [evF_mk, stepF, if_neg (by omega), if_neg (by omega), if_neg (by omega), if_neg (by omega), List.map_cons, List.map_cons, List.map_cons, List.map_nil, nth0]
  cases evF lets en vs c with
  | err e => rfl
  | ok w => dsimp only; rw [if_neg (by omega), if_pos rfl, nth1, nth2]
abbrev kLever : Str := [108, 101, 118, 101, 114]
abbrev kDebt : Str := [100, 101, 98, 116]
abbrev kCash : Str := [99, 97, 115, 104]
abbrev fDebt : Exp := .mk 2 0 0 kDebt []
abbrev fCash : Exp := .mk 2 0 0 kCash []
def lev : Exp := nodeE 7 fDebt fCash
def lets0 : List Let := [⟨kLever, lev⟩]
abbrev nLever : Exp := .mk 1 0 0 kLever []
def x1 : Exp := nodeE 10 nLever (.mk 0 4 0 [] [])
def x2 : Exp := nodeE 4 (.mk 3 0 0 [97] []) (.mk 0 25 2 [] [])
def x3 : Exp := .mk 1 0 0 kCash []
def zeroE : Exp := nodeE 7 (.mk 0 1 0 [] []) (.mk 0 0 0 [] [])
def max2 : Exp := nodeE 9 nLever (.mk 0 2 0 [] [])
def x4 : Exp := .mk 15 0 0 [] [.mk 0 0 4 [] [], zeroE, max2]
theorem okLeaf {op n u : Int} {s : Str} (h : s.length ≤ 9223372036854775807) : OkE (.mk op n u s []) := .mk h (by simp) (fun x hx => by cases hx)
theorem ok_lev : OkE lev := okNode (okLeaf (by decide)) (okLeaf (by decide))
theorem ok_x1 : OkE x1 := okNode (okLeaf (by decide)) (okLeaf (by decide))
theorem ok_x2 : OkE x2 := okNode (okLeaf (by decide)) (okLeaf (by decide))
theorem ok_x3 : OkE x3 := okLeaf (by decide)
theorem ok_zero : OkE zeroE := okNode (okLeaf (by decide)) (okLeaf (by decide))
theorem ok_x4 : OkE x4 := .mk (by decide) (by decide) (fun x hx => by
  rcases List.mem_cons.1 hx with rfl | hx
  · exact okLeaf (by decide)
  rcases List.mem_cons.1 hx with rfl | hx
  · exact ok_zero
  rw [List.mem_singleton.1 hx]
  exact okNode (okLeaf (by decide)) (okLeaf (by decide)))
theorem stats : statF lev = true ∧ statF x1 = true ∧ statF x2 = true ∧ statF x3 = true ∧ statF zeroE = true ∧ statF x4 = true := by decide +kernel
theorem lets0_ok : LetsOk lets0 := ⟨by decide, fun y hy => by rw [List.mem_singleton.1 hy]; exact ⟨stats.1, ok_lev⟩⟩
theorem lev_val : evF lets0 offQ [] lev = .ok (Rat.divInt 3 1) := by
  have e1 : evF lets0 offQ [] fDebt = .ok rN := by rw [ev_fact]; decide +kernel
  have e2 : evF lets0 offQ [] fCash = .ok rM := by rw [ev_fact]; decide +kernel
  rw [lev, ev_two (by omega) e1 e2, bin7]
  rw [divR_yes (by decide +kernel) (by decide +kernel)]
  decide +kernel
theorem tab1 : tabF lets0 offQ 1 = [.ok (Rat.divInt 3 1)] := by
  rw [tabF, tabF, List.nil_append, show nth lets0 0 = ⟨kLever, lev⟩ from nth0 _ _, lev_val]
theorem name_val : evF lets0 offQ (tabF lets0 offQ 1) nLever = .ok (Rat.divInt 3 1) := by
  rw [ev_name, tab1]; decide +kernel
theorem val1 : valF lets0 offQ lets0.length x1 = .ok (Rat.divInt 1 1) := by
  rw [show lets0.length = 1 from rfl, valF, x1, ev_two (by omega) name_val (ev_num ..), bin10]
  decide +kernel
theorem val2 : valF lets0 offQ lets0.length x2 = .ok (Rat.divInt 3 40) := by
  have e1 : evF lets0 offQ (tabF lets0 offQ 1) (.mk 3 0 0 [97] []) = .ok rA := by rw [ev_rate]; decide +kernel
  rw [show lets0.length = 1 from rfl, valF, x2, ev_two (by omega) e1 (ev_num ..), bin4]
  rw [addR_yes (by decide +kernel)]
  decide +kernel
theorem val3 : valF lets0 offQ lets0.length x3 = .err 14 := by
  rw [show lets0.length = 1 from rfl, valF, x3, ev_name, tab1]
  decide +kernel
theorem val5 : valF lets0 offQ lets0.length zeroE = .err 15 := by
  rw [show lets0.length = 1 from rfl, valF, zeroE, ev_two (by omega) (ev_num ..) (ev_num ..), bin7]
  exact divR_zero (by decide +kernel)
theorem val4 : valF lets0 offQ lets0.length x4 = .ok (Rat.divInt 3 1) := by
  rw [show lets0.length = 1 from rfl, valF, x4, ev_if, ev_num]
  show (if _ then _ else _) = _
  rw [if_pos (by decide +kernel), max2, ev_two (by omega) name_val (ev_num ..), bin9]
  decide +kernel
end
end Go.Proofs.Ytjedkgogjehigaa
end
section
set_option linter.unusedVariables false
set_option linter.unusedSimpArgs false
set_option maxHeartbeats 8000000
set_option linter.unusedSectionVars false
namespace Go.Proofs.Ytjedkgogjehigaa
open Lf Go
attribute [local irreducible] PureOp EffOp Ev RG W Then InBlock Lf.Fin nth App InitE Pick SubE EvL EvD EvP EvR ResL Lf.Lex SubR SubBR EvC FinO FinM ResM ResD FinS val pw digs trimL
section
attribute [local irreducible] sgn mag gcdZ quoZ remZ fullZ fullE
theorem leaf_sub {op n u : Int} {s : Str} : PSub (.agg [.int .i64 op, .int .i64 n, .int .i64 u, .str s, .slnil]) (.agg [.int .i64 op, .int .i64 n, .int .i64 u, .str s, .sl []]) := ⟨.refl _, .refl _, .refl _, .refl _, .nil, trivial⟩
theorem Q_leaf {P : Program} {G : Ghost} {A : St} {o : Oper} {p : Prop} {op n u : Int} {s : Str} (h : PureOp P G A o p (.pv (.agg [.int .i64 op, .int .i64 n, .int .i64 u, .str s, .slnil]))) : PureOp P G A o p (.pv (.agg [.int .i64 op, .int .i64 n, .int .i64 u, .str s, .sl []])) :=
  PureOp.conv h fun Φ β a w hs Φ' v h => by
    have h' : PRel Φ' v (.agg [.int .i64 op, .int .i64 n, .int .i64 u, .str s, .slnil]) := h
    exact h'.sub leaf_sub
theorem vcall {e : Exp} {R : Rs} (hst : statF e = true) (he : OkE e) (h : valF lets0 offQ lets0.length e = R) : ACalls Try.prog 8 [xV lets0, aE e, vV offQ.V] (resP R) := by
  rw [← h]
  exact value_yes lets0_ok offQ_ok hst he
theorem aE_leaf (op n u : Int) (s : Str) : aE (.mk op n u s []) = .agg [.int .i64 op, .int .i64 n, .int .i64 u, .str s, .sl []] := aE_mk ..
theorem small_ok : ACalls Try.prog 6 [] (.pv (cB true)) := by
  obtain ⟨t1, t2, t3, t4, t5, t6⟩ := stats
  have v1 := vcall t2 ok_x1 val1
  have v2 := vcall t3 ok_x2 val2
  have v3 := vcall t4 ok_x3 val3
  have v4 := vcall t6 ok_x4 val4
  have v5 := vcall t5 ok_zero val5
  have n1 : ACalls Try.prog 15 [cI 7, aE fDebt, aE fCash] (.pv (aE lev)) := node_ok 7 fDebt fCash
  have n2 : ACalls Try.prog 15 [cI 10, aE nLever, aE (.mk 0 4 0 [] [])] (.pv (aE x1)) := node_ok 10 _ _
  have n3 : ACalls Try.prog 15 [cI 4, aE (.mk 3 0 0 [97] []), aE (.mk 0 25 2 [] [])] (.pv (aE x2)) := node_ok 4 _ _
  have n4 : ACalls Try.prog 15 [cI 7, aE (.mk 0 1 0 [] []), aE (.mk 0 0 0 [] [])] (.pv (aE zeroE)) := node_ok 7 _ _
  have n5 : ACalls Try.prog 15 [cI 9, aE nLever, aE (.mk 0 2 0 [] [])] (.pv (aE max2)) := node_ok 9 _ _
  have o := office_ok
  have en := env_ok offQ.V
  have f1 := of_ok 1 1 (ix (by omega)) (ix (by omega)) (by omega)
  have f2 := of_ok 3 40 (ix (by omega)) (ix (by omega)) (by omega)
  have f3 := of_ok 3 1 (ix (by omega)) (ix (by omega)) (by omega)
  have q1 := sameV_ok (.ok (Rat.divInt 1 1)) (okC (by omega) (by omega) (by omega))
  have q2 := sameV_ok (.ok (Rat.divInt 3 40)) (okC (by omega) (by omega) (by omega))
  have q3 := sameV_ok (.ok (Rat.divInt 3 1)) (okC (by omega) (by omega) (by omega))
  replace q1 : ACalls Try.prog 12 [zF (Rat.divInt 1 1), zF (Rat.divInt 1 1)] (.pv (cB true)) := q1
  replace q2 : ACalls Try.prog 12 [zF (Rat.divInt 3 40), zF (Rat.divInt 3 40)] (.pv (cB true)) := q2
  replace q3 : ACalls Try.prog 12 [zF (Rat.divInt 3 1), zF (Rat.divInt 3 1)] (.pv (cB true)) := q3
  replace v1 : ACalls Try.prog 8 _ (.tup [zF (Rat.divInt 1 1), cI 0]) := v1
  replace v2 : ACalls Try.prog 8 _ (.tup [zF (Rat.divInt 3 40), cI 0]) := v2
  replace v3 : ACalls Try.prog 8 _ (.tup [zF0, cI 14]) := v3
  replace v4 : ACalls Try.prog 8 _ (.tup [zF (Rat.divInt 3 1), cI 0]) := v4
  replace v5 : ACalls Try.prog 8 _ (.tup [zF0, cI 15]) := v5
  rw [show xV lets0 = .agg [.str [], .str [], .int .i64 0, .int .i64 0, .int .i64 0, .int .i64 0, .int .i64 0, .int .i64 0, .int .i64 0, .int .i64 0, .sl [.str kLever :: encX lev], .int .i64 0, .int .i64 0, .int .i64 0, .str [], .slnil, .int .i64 0, .slnil, .slnil, .int .i64 0, .slnil, .int .i64 0, .int .i64 0, .int .i64 0, .int .i64 0] from rfl] at v1 v2 v3 v4 v5
  rw [show aE x4 = .agg [.int .i64 15, .int .i64 0, .int .i64 0, .str [], .sl [encX (.mk 0 0 4 [] []), encX zeroE, encX max2]] from aE_mk ..] at v4
  rw [show aE x3 = .agg [.int .i64 1, .int .i64 0, .int .i64 0, .str kCash, .sl []] from aE_mk ..] at v3
  rw [aE_leaf, aE_leaf] at n1 n2 n3 n4 n5
  rw [show encX (.mk 0 0 4 [] []) = [.int .i64 0, .int .i64 0, .int .i64 4, .str [], .sl []] from rfl] at v4
  change ACalls Try.prog 15 _ (.pv (.agg (encX lev))) at n1
  change ACalls Try.prog 15 _ (.pv (.agg (encX x1))) at n2
  change ACalls Try.prog 15 _ (.pv (.agg (encX x2))) at n3
  change ACalls Try.prog 15 _ (.pv (.agg (encX zeroE))) at n4
  change ACalls Try.prog 15 _ (.pv (.agg (encX max2))) at n5
  generalize offQ.V = V at *
  obtain ⟨V1, V2, V3, V4⟩ := V
  generalize Rat.divInt 1 1 = r1 at *
  generalize Rat.divInt 3 40 = r2 at *
  generalize Rat.divInt 3 1 = r3 at *
  have sp : ∀ e : Exp, ∃ (a b c : Int) (s : Str) (l : List (List Cell)), encX e = [.int .i64 a, .int .i64 b, .int .i64 c, .str s, .sl l] := fun e => ⟨_, _, _, _, _, rfl⟩
  obtain ⟨l1, l2, l3, l4, l5, hlev⟩ := sp lev
  obtain ⟨a1, a2, a3, a4, a5, hx1⟩ := sp x1
  obtain ⟨b1, b2, b3, b4, b5, hx2⟩ := sp x2
  obtain ⟨c1, c2, c3, c4, c5, hz⟩ := sp zeroE
  obtain ⟨d1, d2, d3, d4, d5, hm⟩ := sp max2
  rw [show aE x1 = .agg (encX x1) from rfl, hx1] at v1
  rw [show aE x2 = .agg (encX x2) from rfl, hx2] at v2
  rw [show aE zeroE = .agg (encX zeroE) from rfl, hz] at v5
  rw [hlev] at n1 v1 v2 v3 v4 v5
  rw [hx1] at n2
  rw [hx2] at n3
  rw [hz] at n4 v4
  rw [hm] at n5 v4
  clear sp hlev hx1 hx2 hz hm t1 t2 t3 t4 t5 t6
  refine ACalls.of_W (qs := [cB true]) [0] 111 Try.func6 (by kernel_rfl) rfl rfl rfl fun G => ?_
  refine W.initA (hw := ?_)
  repeat' (first | ((first | apply U_ | (apply Ug_; exact rfl; exact rfl) | (apply Ugq_; exact rfl; exact rfl) | apply Lex.u | (apply Lex.g; exact rfl; exact rfl) | (apply Lex.gq; exact rfl; exact rfl)); (first | (apply Q_leaf; exact QX.Build TYok) | (apply Q_litD TYok; apply EvR.cons Ev.auto; (repeat (first | exact EvR.nil | apply EvR.cons Ev.auto)); exact rfl; exact rfl; exact rfl; exact rfl; exact rfl; exact rfl) | exact QX.B TYok | exact QX.Ext TYok | exact QX.Build TYok | exact QCd (n1) | exact QCd (n2) | exact QCd (n3) | exact QCd (n4) | exact QCd (n5) | exact QCd (o) | exact QCd (en) | exact QCd (v1) | exact QCd (v2) | exact QCd (v3) | exact QCd (v4) | exact QCd (v5) | exact QCd (f1) | exact QCd (f2) | exact QCd (f3) | exact QCd (q1) | exact QCd (q2) | exact QCd (q3)); exact rfl) | refine SX.Alloc TYok (h := ?_) | refine SX.Store TYok (h := ?_) | refine SX.Lit TYok (h := ?_) | refine SC ?_ | (apply S_isnil TYok; exact rfl; exact rfl; exact rfl; exact Ev.auto; intro bn hnil) | (apply RG.gT; exact rfl; exact rfl; (first | assumption | decide)) | (apply RG.gF; exact rfl; exact rfl; (first | assumption | decide | (rw [ne_eq, Bool.not_eq_true]; assumption) | (rw [ne_eq, Bool.not_eq_false]; assumption)); exact rfl) | apply LexS.nil | (apply LexS.f; exact rfl; (first | (apply FreshV.alloc TYok; exact rfl; exact rfl; exact rfl; exact rfl) | (apply FreshV.lit TYok; (repeat (first | exact EvR.nil | apply EvR.cons Ev.auto)); exact rfl; exact rfl; exact rfl; exact rfl; exact rfl; exact rfl; exact rfl; exact rfl; exact rfl) | (apply FreshV.box; exact Ev.auto; exact rfl; exact rfl; exact rfl)); exact rfl; exact rfl; exact rfl) | (apply LexS.s; exact rfl; exact rfl; (apply StoreV.mk TYok; exact Ev.auto; exact Ev.auto; exact rfl; exact rfl; exact rfl; exact rfl; exact rfl)) | ((first | apply LexS.u | (apply LexS.g; exact rfl; exact rfl) | (apply LexS.gq; exact rfl; exact rfl)); (repeat (first | (apply NB.cons; exact rfl) | exact NB.nil rfl)); (first | (apply Q_leaf; exact QX.Build TYok) | (apply Q_litD TYok; apply EvR.cons Ev.auto; (repeat (first | exact EvR.nil | apply EvR.cons Ev.auto)); exact rfl; exact rfl; exact rfl; exact rfl; exact rfl; exact rfl) | exact QX.B TYok | exact QX.Ext TYok | exact QX.Build TYok | exact QCd (n1) | exact QCd (n2) | exact QCd (n3) | exact QCd (n4) | exact QCd (n5) | exact QCd (o) | exact QCd (en) | exact QCd (v1) | exact QCd (v2) | exact QCd (v3) | exact QCd (v4) | exact QCd (v5) | exact QCd (f1) | exact QCd (f2) | exact QCd (f3) | exact QCd (q1) | exact QCd (q2) | exact QCd (q3)); exact rfl; exact rfl; exact rfl) | (apply W.draw2 (id := 10) [0, 0, 3, 7, 15, 31, 63, 127, 255, 255, 1023, 2047, 4095, 8191, 16383, 32767, 65535] [[4], [], [77, 78], [79], [5, 80], [81, 80], [80, 82], [83], [6, 84], [84], [85, 86, 84], [84, 87], [88], [7, 89], [90, 89], [89, 91], [92]] 17 [(77, 16), (78, 0), (79, 453347182355485940514816), (80, 604462909807314587353088), (81, 1208925819614629174706208), (82, 3626777458843887524118528), (83, 6044629098073145873530880), (84, 9671406556917033397649408), (85, 19342813113834066795298880), (86, 19342813113834066795298816), (87, 135399691796838467567091712), (88, 174085318024506601157689344), (89, 309485009821345068724781056), (90, 618970019642690137449562240), (91, 1856910058928070412348686336), (92, 3094850098213450687247810560), (15, 4951760157141521099596496896)] mixed (by kernel_rfl) rfl rfl) | (apply W.draw2 (id := 11) [0, 1, 3, 7, 15, 31, 63, 63, 255, 511, 1023, 2047, 4095, 8191, 16383, 32767, 65535, 131071, 262143] [[15], [93], [9, 94], [95, 94], [94, 96], [97], [11, 98], [98], [99, 100, 98], [98, 101], [102], [12, 103], [104, 103], [103, 105], [106], [14, 107], [108, 107], [107, 109], [110]] 19 [(93, 32768), (94, 9903520314283042199192993792), (95, 19807040628566084398385988096), (96, 59421121885698253195157962752), (97, 99035203142830421991929937920), (98, 158456325028528675187087900672), (99, 316912650057057350374175803392), (100, 316912650057057350374175801344), (101, 2218388550399401452619230609408), (102, 2852213850513516153367582212096), (103, 5070602400912917605986812821504), (104, 10141204801825835211973625647104), (105, 30423614405477505635920876929024), (106, 50706024009129176059868128215040), (107, 81129638414606681695789005144064), (108, 162259276829213363391578010304512), (109, 486777830487640090174734030864384), (110, 811296384146066816957890051440640), (0, 1298074214633706907132624082305024)] mixed (by kernel_rfl) rfl rfl) | (refine W.drawS (id := 4) [0, 0, 0, 6, 14, 30, 63, 127, 255, 255, 0, 1535, 4095] [[2], [3], [], [26, 27], [], [29], [25, 28, 30], [31], [24], [24], [], [4, 32], [33]] [(11, (4, ?_)), (10, (4, ?_))] [(11, 4), (10, 4)] mixed (by kernel_rfl) rfl ?_; rotate_left 2) | (refine W.drawS (id := 5) [0, 0, 0, 6, 14, 30, 63, 127, 255, 255, 0, 1535, 4095] [[2], [], [], [36, 37], [], [39], [35, 38, 40], [41], [34], [34], [], [6, 42], [43]] [(11, (6, ?_)), (10, (6, ?_))] [(11, 6), (10, 6)] mixed (by kernel_rfl) rfl ?_; rotate_left 2) | (refine W.drawS (id := 6) [0, 0, 0, 4, 15, 31, 63, 63, 0, 383, 1023] [[2], [], [], [47], [45, 46, 48], [49], [44], [44], [], [8, 50], [51]] [(9, (8, ?_)), (8, (8, ?_))] [(9, 8), (8, 8)] mixed (by kernel_rfl) rfl ?_; rotate_left 2) | (refine W.drawS (id := 8) [0, 0, 0, 0, 0, 24, 62, 126, 56, 312, 1023, 2047, 4095, 4095, 0, 24575, 65535] [[2], [], [10], [3], [], [59, 60], [57, 58, 61], [62], [], [64], [56, 63, 65], [66], [55], [55], [], [11, 67], [68]] [(15, (11, ?_)), (14, (11, ?_))] [(15, 11), (14, 11)] mixed (by kernel_rfl) rfl ?_; rotate_left 2) | (refine W.drawS (id := 9) [0, 0, 0, 4, 15, 31, 63, 63, 0, 383, 1023] [[2], [10], [], [72], [70, 71, 73], [74], [69], [69], [], [13, 75], [76]] [(9, (13, ?_)), (8, (13, ?_))] [(9, 13), (8, 13)] mixed (by kernel_rfl) rfl ?_; rotate_left 2) | (refine W.condA (ht := fun hb => ?_) (hf := fun hb => ?_) <;> (try simp at hb) <;> (try (exfalso; omega))))
  all_goals first
    | exact Fin.ret ResL.auto
    | trace_state
end
end Go.Proofs.Ytjedkgogjehigaa
end
section
set_option linter.unusedVariables false
set_option linter.unusedSimpArgs false
set_option maxHeartbeats 8000000
set_option linter.unusedSectionVars false
namespace Go.Proofs.Ytjedkgogjehigaa
open Lf Go
attribute [local irreducible] PureOp EffOp Ev RG W Then InBlock Lf.Fin nth App InitE Pick SubE EvL EvD EvP EvR ResL Lf.Lex SubR SubBR EvC FinO FinM ResM ResD FinS val pw digs trimL
section
variable {lets : List Let} {en : EnvQ} {v : EnvV}
theorem opsF_op {op : Int} (h : (4 ≤ op ∧ op ≤ 11) ∨ op = 13 ∨ op = 14) : opsF op = 2 := by
  unfold opsF
  rw [if_neg (by omega), if_neg (by omega), if_neg (by omega), if_neg (by omega)]
theorem stat_node {op : Int} {a b : Exp} (h : (4 ≤ op ∧ op ≤ 11) ∨ op = 13 ∨ op = 14) : statF (nodeE op a b) = ((rightF 11 a && rightF 11 b) && (!tempF a && !tempF b)) := by
  unfold statF nodeE
  rw [show (12 : Nat) = 11 + 1 from rfl, rightF, opsF_op h, if_neg (by omega), if_neg (by omega), if_neg (by omega), tempF, tempFs_any, decide_eq_false (show ¬ op = 16 by omega), decide_eq_false (show ¬ op = 17 by omega), decide_eq_false (show ¬ op = 18 by omega)]
  simp
theorem stat_swap {op op2 : Int} {a b : Exp} (h : (4 ≤ op ∧ op ≤ 11) ∨ op = 13 ∨ op = 14) (h2 : (4 ≤ op2 ∧ op2 ≤ 11) ∨ op2 = 13 ∨ op2 = 14) (hs : statF (nodeE op a b) = true) : statF (nodeE op2 a b) = true ∧ statF (nodeE op2 b a) = true := by
  rw [stat_node h] at hs
  rw [stat_node h2, stat_node h2]
  simp only [Bool.and_eq_true] at hs ⊢
  exact ⟨hs, ⟨hs.1.2, hs.1.1⟩, hs.2.2, hs.2.1⟩
theorem askF_iff {e : Exp} : askF lets e v = true ↔ (statF e = true ∧ lets.length ≤ 20) ∧ (lets.any fun y => !statF y.body) = false ∧ validF v = true := by
  unfold askF
  simp only [Bool.and_eq_true, decide_eq_true_iff, Bool.not_eq_true']
theorem addR_comm (a b : Rat) : addR a b = addR b a := by
  have e : addOk a b ↔ addOk b a := by
    unfold addOk sumOk
    rw [Int.mul_comm a.den b.den, Int.add_comm (a.num * b.den)]
    constructor <;> (rintro ⟨⟨h1, h2, h3⟩, h4⟩; exact ⟨⟨h2, h1, h3⟩, h4⟩)
  unfold addR
  by_cases h : addOk a b
  · rw [if_pos h, if_pos (e.1 h), Rat.add_comm]
  · rw [if_neg h, if_neg (fun q => h (e.2 q))]
theorem mulR_comm (a b : Rat) : mulR a b = mulR b a := by
  have e : mulOk a b ↔ mulOk b a := by
    unfold mulOk
    rw [Int.mul_comm a.num, Int.mul_comm a.den b.den]
  unfold mulR
  by_cases h : mulOk a b
  · rw [if_pos h, if_pos (e.1 h), Rat.mul_comm]
  · rw [if_neg h, if_neg (fun q => h (e.2 q))]
theorem addR_ok {a b r : Rat} (h : addR a b = .ok r) : r = a + b := by
  unfold addR at h
  split at h
  · injection h with h; exact h.symm
  · cases h
/-- what is added can be subtracted again -/
theorem back_ok {p q r s : Rat} (h : addR p q = .ok r) (h2 : subR r q = .ok s) : s = p := by
  have e := addR_ok h
  unfold subR at h2
  split at h2
  · injection h2 with h2
    rw [← h2, e, Rat.sub_eq_add_neg, Rat.add_assoc, Rat.add_neg_cancel, Rat.add_zero]
  · cases h2
theorem cmpR_swap (a b : Rat) : cmpR b a = -cmpR a b := by unfold cmpR; exact cmp_swap _ _
/-- the value of a part, where all is right -/
theorem val_ok (hL : LetsOk lets) (oen : en.Ok) {e : Exp} (he : OkE e) (hs : statF e = true) {R : Rs} (h : valF lets en lets.length e = R) : ACalls Try.prog 8 [xV lets, aE e, vV en.V] (resP R) ∧ R.fit := by
  rw [← h]
  exact ⟨value_yes hL oen hs he, valF_fit hL oen hs⟩
theorem val_two {op : Int} {a b : Exp} {p q : Rat} (h : 4 ≤ op ∧ op ≤ 11) (ha : valF lets en lets.length a = .ok p) (hb : valF lets en lets.length b = .ok q) : valF lets en lets.length (nodeE op a b) = binF op p q := ev_two h ha hb
/-- the sum, less the second part: too great, or the first part again -/
theorem val_back (hl : LIn lets) (hv : en.V.Len) (hL : LetsOk lets) (oen : en.Ok) {a b : Exp} (oa : OkE a) (ob : OkE b) {p q : Rat} (ha : valF lets en lets.length a = .ok p) (hb : valF lets en lets.length b = .ok q) :
    ∃ (R : Rs), ACalls Try.prog 8 [xV lets, aE (nodeE 5 (nodeE 4 a b) b), vV en.V] (resP R) ∧ (R.e ≠ 0 ∨ R = .ok p) := by
  by_cases hs : statF (nodeE 5 (nodeE 4 a b) b) = true
  · have h1 := value_yes hL oen hs (okNode (okNode oa ob) ob)
    refine ⟨_, h1, ?_⟩
    have h2 := val_two (op := 4) (by omega) ha hb
    rw [bin4] at h2
    cases hS : addR p q with
    | err c =>
      have hc : c ≠ 0 := by have := addR_fit p q; rw [hS] at this; exact this
      rw [hS] at h2
      left
      have : valF lets en lets.length (nodeE 5 (nodeE 4 a b) b) = .err c := by
        rw [valF, nodeE, evF_mk, stepF, if_neg (by omega), if_neg (by omega), if_neg (by omega), if_neg (by omega), List.map_cons, List.map_cons, List.map_nil, nth0]
        rw [valF] at h2
        rw [h2]
      rw [this]; exact hc
    | ok r =>
      rw [hS] at h2
      have h3 := val_two (op := 5) (by omega) h2 hb
      rw [bin5] at h3
      rw [h3]
      cases hS2 : subR r q with
      | err c =>
        left
        have := subR_fit r q; rw [hS2] at this; exact this
      | ok s =>
        right
        rw [back_ok hS hS2]
  · have : askF lets (nodeE 5 (nodeE 4 a b) b) en.V = false := by
      rw [← Bool.not_eq_true, askF_iff]; exact fun h => hs h.1.1
    exact ⟨.err 1, value_arg hl (okNode (okNode oa ob) ob) hv this, .inl (by decide)⟩
end
end Go.Proofs.Ytjedkgogjehigaa
end
section
set_option linter.unusedVariables false
set_option linter.unusedSimpArgs false
set_option maxHeartbeats 8000000
set_option linter.unusedSectionVars false
namespace Go.Proofs.Ytjedkgogjehigaa
open Lf Go
attribute [local irreducible] PureOp EffOp Ev RG W Then InBlock Lf.Fin nth App InitE Pick SubE EvL EvD EvP EvR ResL Lf.Lex SubR SubBR EvC FinO FinM ResM ResD FinS val pw digs trimL
section
variable {lets : List Let} {en : EnvQ} {v : EnvV}
/-- the number that a right fraction stands for -/
def Fq.val (q : Fq) : Rat := Rat.divInt (q.s * Lf.val q.d) (Lf.val q.d')
theorem fqOf_val {r : Rat} : (fqOf r).val = r := by
  unfold Fq.val fqOf
  have hp := den_pos r
  have c := sgn_cases r.den
  rw [val_mag, val_mag, sgn_mag, show mag r.den = r.den by omega, Rat.num_divInt_den]
theorem fqs_inj {a b : List Rat} (h : a.map fqOf = b.map fqOf) : a = b := by
  have h2 := congrArg (List.map Fq.val) h
  rw [List.map_map, List.map_map] at h2
  have e : (Fq.val ∘ fqOf) = id := funext fun r => fqOf_val
  rwa [e, List.map_id, List.map_id] at h2
theorem V_inj {en en' : EnvQ} (h : en.V = en'.V) : en = en' := by
  obtain ⟨a, b, c, d⟩ := en
  obtain ⟨a', b', c', d'⟩ := en'
  unfold EnvQ.V at h
  simp only [EnvV.mk.injEq] at h
  obtain ⟨rfl, h2, rfl, h4⟩ := h
  rw [fqs_inj h2, fqs_inj h4]
/-- what Value gives, and when it is no ErrArg -/
theorem value_res (hl : LIn lets) {e : Exp} (he : OkE e) (hv : v.Len) : ∃ R : Rs, ACalls Try.prog 8 [xV lets, aE e, vV v] (resP R) ∧ R.fit ∧ (R.e ≠ 1 → ∃ en : EnvQ, en.Ok ∧ LetsOk lets ∧ v = en.V ∧ statF e = true ∧ R = valF lets en lets.length e) := by
  by_cases ha : askF lets e v = false
  · exact ⟨.err 1, value_arg hl he hv ha, (by decide : (1 : Int) ≠ 0), fun h => absurd rfl h⟩
  · have ha' := ha
    rw [Bool.not_eq_false, askF_iff] at ha'
    obtain ⟨⟨a1, a2⟩, a3, a4⟩ := ha'
    obtain ⟨en, oen, rfl⟩ := env_q hv a4
    have hL := lets_ok hl a2 a3
    exact ⟨_, value_yes hL oen a1 he, valF_fit hL oen a1, fun _ => ⟨en, oen, hL, rfl, a1, rfl⟩⟩
theorem Rs.split (R : Rs) : ∃ (x1 : Int) (x2 : List Int) (x3 : Int) (x4 : List Int) (c : Int), resP R = .tup [.agg [.int .i64 x1, .sl (x2.map Lf.encI), .int .i64 x3, .sl (x4.map Lf.encI)], cI c] ∧ R.v = .agg [.int .i64 x1, .sl (x2.map Lf.encI), .int .i64 x3, .sl (x4.map Lf.encI)] ∧ R.e = c := by
  obtain ⟨x1, x2, x3, x4, h⟩ := R.v_agg
  exact ⟨x1, x2, x3, x4, R.e, by unfold resP; rw [h], h, rfl⟩
attribute [local irreducible] sgn mag gcdZ quoZ remZ fullZ fullE
theorem order_ret {a b : Exp} {R1 R2 R3 : Rs} {f1 f2 : Bool} (h1 : ACalls Try.prog 7 [xV lets, aE a, vV v] (.pv (cB f1))) (h2 : ACalls Try.prog 13 [aE b, cI 15] (.pv (cB f2)))
    (v1 : ACalls Try.prog 8 [xV lets, aE a, vV v] (resP R1)) (v2 : ACalls Try.prog 8 [xV lets, aE b, vV v] (resP R2)) (v3 : ACalls Try.prog 8 [xV lets, aE (nodeE 10 a b), vV v] (resP R3)) (hr : R1.e ≠ 0 ∨ R2.e ≠ 0 ∨ R3.e = 1) :
    ACalls Try.prog 5 [slL lets, aE a, aE b, vV v] (.pv (cB true)) := by
  have h0 := small_ok
  have he := env_ok v
  have n1 := node_ok 10 a b
  obtain ⟨x1, x2, x3, x4, c1, q1, _, q2⟩ := R1.split
  obtain ⟨y1, y2, y3, y4, c2, r1, _, r2⟩ := R2.split
  obtain ⟨z1, z2, z3, z4, c3, s1, _, s2⟩ := R3.split
  rw [q1] at v1
  rw [r1] at v2
  rw [s1] at v3
  rw [q2, r2, s2] at hr
  rw [show aE (nodeE 10 a b) = .agg [.int .i64 (nodeE 10 a b).op, .int .i64 (nodeE 10 a b).n, .int .i64 (nodeE 10 a b).u, .str (nodeE 10 a b).s, .sl ((nodeE 10 a b).args.map encE)] from rfl] at n1 v3
  generalize (nodeE 10 a b).args.map encE = w5 at *
  generalize (nodeE 10 a b).s = w4 at *
  generalize (nodeE 10 a b).u = w3 at *
  generalize (nodeE 10 a b).n = w2 at *
  generalize (nodeE 10 a b).op = w1 at *
  clear q1 q2 r1 r2 s1 s2
  obtain ⟨op, k, u, s, l⟩ := a
  obtain ⟨op', k', u', s', l'⟩ := b
  obtain ⟨N, V, I, R⟩ := v
  refine ACalls.of_W (qs := [cB true]) [8] 289 Try.func5 (by kernel_rfl) rfl rfl rfl fun G => ?_
  refine W.initA (hw := ?_)
  repeat' (first | ((first | apply U_ | (apply Ug_; exact rfl; exact rfl) | (apply Ugq_; exact rfl; exact rfl)); (first | exact QX.B TYok | exact QX.Ext TYok | exact QX.Build TYok | exact QCd (h0) | exact QCd (h1) | exact QCd (h2) | exact QCd (he) | exact QCd (n1) | exact QCd (v1) | exact QCd (v2) | exact QCd (v3)); exact rfl) | refine SX.Alloc TYok (h := ?_) | refine SX.Store TYok (h := ?_) | refine SX.Box TYok (h := ?_) | refine SC ?_ | (apply S_isnil TYok; exact rfl; exact rfl; exact rfl; exact Ev.auto; intro bn hnil) | (apply RG.gT; exact rfl; exact rfl; (first | assumption | decide)) | (apply RG.gF; exact rfl; exact rfl; (first | assumption | decide | (rw [ne_eq, Bool.not_eq_true]; assumption) | (rw [ne_eq, Bool.not_eq_false]; assumption)); exact rfl) | apply LexS.nil | (apply LexS.f; exact rfl; (first | (apply FreshV.alloc TYok; exact rfl; exact rfl; exact rfl; exact rfl) | (apply FreshV.lit TYok; (repeat (first | exact EvR.nil | apply EvR.cons Ev.auto)); exact rfl; exact rfl; exact rfl; exact rfl; exact rfl; exact rfl; exact rfl; exact rfl; exact rfl) | (apply FreshV.box; exact Ev.auto; exact rfl; exact rfl; exact rfl)); exact rfl; exact rfl; exact rfl) | (apply LexS.s; exact rfl; exact rfl; (apply StoreV.mk TYok; exact Ev.auto; exact Ev.auto; exact rfl; exact rfl; exact rfl; exact rfl; exact rfl)) | ((first | apply LexS.u | (apply LexS.g; exact rfl; exact rfl) | (apply LexS.gq; exact rfl; exact rfl)); (repeat (first | (apply NB.cons; exact rfl) | exact NB.nil rfl)); (first | exact QX.B TYok | exact QX.Ext TYok | exact QX.Build TYok | exact QCd (h0) | exact QCd (h1) | exact QCd (h2) | exact QCd (he) | exact QCd (n1) | exact QCd (v1) | exact QCd (v2) | exact QCd (v3)); exact rfl; exact rfl; exact rfl) | (refine W.drawS (id := 5) [0, 0, 0, 4, 15, 31, 63, 63, 0, 383, 1023] [[10], [5], [7], [55], [53, 54, 56], [57], [52], [52], [], [11, 58], [59]] [(9, (11, ?_)), (8, (11, ?_))] [(9, 11), (8, 11)] mixed (by kernel_rfl) rfl ?_; rotate_left 2) | (refine W.drawS (id := 6) [0, 0, 0, 4, 15, 31, 63, 63, 0, 383, 1023] [[10], [6], [7], [63], [61, 62, 64], [65], [60], [60], [], [13, 66], [67]] [(9, (13, ?_)), (8, (13, ?_))] [(9, 13), (8, 13)] mixed (by kernel_rfl) rfl ?_; rotate_left 2) | (refine W.drawS (id := 7) [0, 0, 0, 6, 0, 30, 63, 127, 255, 255, 0, 1535, 4095] [[10], [5], [6], [70, 71], [7], [73], [69, 72, 74], [75], [68], [68], [], [15, 76], [77]] [(11, (15, ?_)), (10, (15, ?_))] [(11, 15), (10, 15)] mixed (by kernel_rfl) rfl ?_; rotate_left 2) | (refine W.drawS (id := 10) [0, 0, 0, 6, 0, 30, 63, 127, 255, 255, 0, 1535, 4095] [[10], [6], [5], [91, 92], [7], [94], [90, 93, 95], [96], [89], [89], [], [17, 97], [98]] [(11, (17, ?_)), (10, (17, ?_))] [(11, 17), (10, 17)] mixed (by kernel_rfl) rfl ?_; rotate_left 2) | (refine W.drawS (id := 11) [0, 0, 0, 6, 0, 30, 63, 127, 255, 255, 0, 1535, 4095] [[10], [5], [6], [101, 102], [7], [104], [100, 103, 105], [106], [99], [99], [], [19, 107], [108]] [(11, (19, ?_)), (10, (19, ?_))] [(11, 19), (10, 19)] mixed (by kernel_rfl) rfl ?_; rotate_left 2) | (refine W.drawS (id := 12) [0, 0, 0, 6, 0, 30, 63, 127, 255, 255, 0, 1535, 4095] [[10], [5], [6], [111, 112], [7], [114], [110, 113, 115], [116], [109], [109], [], [21, 117], [118]] [(11, (21, ?_)), (10, (21, ?_))] [(11, 21), (10, 21)] mixed (by kernel_rfl) rfl ?_; rotate_left 2) | (refine W.drawS (id := 13) [0, 0, 0, 6, 0, 30, 63, 127, 255, 255, 0, 1535, 4095] [[10], [5], [6], [121, 122], [7], [124], [120, 123, 125], [126], [119], [119], [], [23, 127], [128]] [(11, (23, ?_)), (10, (23, ?_))] [(11, 23), (10, 23)] mixed (by kernel_rfl) rfl ?_; rotate_left 2) | (refine W.drawS (id := 21) [0, 0, 0, 6, 0, 30, 63, 127, 255, 255, 0, 1535, 4095] [[10], [5], [6], [209, 210], [7], [212], [208, 211, 213], [214], [207], [207], [], [28, 215], [216]] [(11, (28, ?_)), (10, (28, ?_))] [(11, 28), (10, 28)] mixed (by kernel_rfl) rfl ?_; rotate_left 2) | (refine W.drawS (id := 22) [0, 0, 0, 6, 0, 30, 63, 127, 255, 255, 0, 1535, 4095] [[10], [6], [5], [219, 220], [7], [222], [218, 221, 223], [224], [217], [217], [], [30, 225], [226]] [(11, (30, ?_)), (10, (30, ?_))] [(11, 30), (10, 30)] mixed (by kernel_rfl) rfl ?_; rotate_left 2) | (refine W.drawS (id := 23) [0, 0, 0, 6, 0, 30, 63, 127, 255, 255, 0, 1535, 4095] [[10], [5], [6], [229, 230], [7], [232], [228, 231, 233], [234], [227], [227], [], [32, 235], [236]] [(11, (32, ?_)), (10, (32, ?_))] [(11, 32), (10, 32)] mixed (by kernel_rfl) rfl ?_; rotate_left 2) | (refine W.drawS (id := 24) [0, 0, 0, 6, 0, 30, 63, 127, 255, 255, 0, 1535, 4095] [[10], [6], [5], [239, 240], [7], [242], [238, 241, 243], [244], [237], [237], [], [34, 245], [246]] [(11, (34, ?_)), (10, (34, ?_))] [(11, 34), (10, 34)] mixed (by kernel_rfl) rfl ?_; rotate_left 2) | (refine W.drawS (id := 27) [0, 0, 0, 6, 0, 30, 0, 126, 255, 511, 1023, 1023, 0, 6143, 16383] [[10], [5], [6], [269, 270], [6], [271, 272], [7], [274], [268, 273, 275], [276], [267], [267], [], [36, 277], [278]] [(13, (36, ?_)), (12, (36, ?_))] [(13, 36), (12, 36)] mixed (by kernel_rfl) rfl ?_; rotate_left 2) | (refine W.condA (ht := fun hb => ?_) (hf := fun hb => ?_) <;> (try simp at hb) <;> (try (exfalso; omega))))
  all_goals first
    | exact Fin.ret ResL.auto
    | (exfalso; omega)
    | (exfalso; rcases hr with h | h | h <;> simp_all; done)
    | trace_state
end
end Go.Proofs.Ytjedkgogjehigaa
end
section
set_option linter.unusedVariables false
set_option linter.unusedSimpArgs false
set_option maxHeartbeats 8000000
set_option linter.unusedSectionVars false
namespace Go.Proofs.Ytjedkgogjehigaa
open Lf Go
attribute [local irreducible] PureOp EffOp Ev RG W Then InBlock Lf.Fin nth App InitE Pick SubE EvL EvD EvP EvR ResL Lf.Lex SubR SubBR EvC FinO FinM ResM ResD FinS val pw digs trimL
section
variable {lets : List Let} {en : EnvQ} {v : EnvV}
theorem one01_sgn (b : Bool) : (sgn (one01 b).num = 1) ↔ b = true := by cases b <;> decide +kernel
theorem aE_gen (e : Exp) : ∃ (w1 w2 w3 : Int) (w4 : Str) (w5 : List (List Cell)), aE e = .agg [.int .i64 w1, .int .i64 w2, .int .i64 w3, .str w4, .sl w5] := ⟨_, _, _, _, _, rfl⟩
attribute [local irreducible] sgn mag gcdZ quoZ remZ fullZ fullE
theorem order_bad {A1 A2 A3 : Prop} {c : Int} {b1 b2 b3 b4 : Bool} (g1 : A1 ↔ c < 0) (g2 : A2 ↔ 0 < c) (g3 : A3 ↔ c = 0) (g4 : c ≤ 0 → b1 = true ∧ b2 = true) (g5 : 0 ≤ c → b3 = true ∧ b4 = true)
    (hb : ((¬(A1 ↔ c < 0) ∨ ¬(A2 ↔ 0 < c)) ∨ ¬(A3 ↔ c = 0)) ∨ ((0 < c ∨ b1 = false) ∨ b2 = false) ∧ ((c < 0 ∨ b3 = false) ∨ b4 = false)) : False := by
  rcases hb with ((h | h) | h) | ⟨h, h'⟩
  · exact h g1
  · exact h g2
  · exact h g3
  · by_cases hc : c ≤ 0
    · obtain ⟨q1, q2⟩ := g4 hc
      rw [q1, q2] at h
      simp at h
      omega
    · obtain ⟨q1, q2⟩ := g5 (by omega)
      rw [q1, q2] at h'
      simp at h'
      omega
theorem order_walk (a b e1 e2 e3 e4 e5 e6 e7 e8 e9 e10 : Exp) (f1 f2 : Bool) (p q r1 r2 r3 m1 m2 : Rat) (c : Int) (b1 b2 b3 b4 : Bool) (S M K : Rs)
    (h1 : ACalls Try.prog 7 [xV lets, aE a, vV v] (.pv (cB f1))) (h2 : ACalls Try.prog 13 [aE b, cI 15] (.pv (cB f2)))
    (n1 : ACalls Try.prog 15 [cI 10, aE a, aE b] (.pv (aE e1))) (n2 : ACalls Try.prog 15 [cI 10, aE b, aE a] (.pv (aE e2))) (n3 : ACalls Try.prog 15 [cI 11, aE a, aE b] (.pv (aE e3))) (n4 : ACalls Try.prog 15 [cI 8, aE a, aE b] (.pv (aE e4))) (n5 : ACalls Try.prog 15 [cI 9, aE a, aE b] (.pv (aE e5)))
    (n6 : ACalls Try.prog 15 [cI 4, aE a, aE b] (.pv (aE e6))) (n7 : ACalls Try.prog 15 [cI 4, aE b, aE a] (.pv (aE e7))) (n8 : ACalls Try.prog 15 [cI 6, aE a, aE b] (.pv (aE e8))) (n9 : ACalls Try.prog 15 [cI 6, aE b, aE a] (.pv (aE e9))) (n10 : ACalls Try.prog 15 [cI 5, aE e6, aE b] (.pv (aE e10)))
    (va : ACalls Try.prog 8 [xV lets, aE a, vV v] (.tup [zF p, cI 0])) (vb : ACalls Try.prog 8 [xV lets, aE b, vV v] (.tup [zF q, cI 0]))
    (v1 : ACalls Try.prog 8 [xV lets, aE e1, vV v] (.tup [zF r1, cI 0])) (v2 : ACalls Try.prog 8 [xV lets, aE e2, vV v] (.tup [zF r2, cI 0])) (v3 : ACalls Try.prog 8 [xV lets, aE e3, vV v] (.tup [zF r3, cI 0])) (v4 : ACalls Try.prog 8 [xV lets, aE e4, vV v] (.tup [zF m1, cI 0])) (v5 : ACalls Try.prog 8 [xV lets, aE e5, vV v] (.tup [zF m2, cI 0]))
    (v6 : ACalls Try.prog 8 [xV lets, aE e6, vV v] (resP S)) (v7 : ACalls Try.prog 8 [xV lets, aE e7, vV v] (resP S)) (v8 : ACalls Try.prog 8 [xV lets, aE e8, vV v] (resP M)) (v9 : ACalls Try.prog 8 [xV lets, aE e9, vV v] (resP M)) (v10 : ACalls Try.prog 8 [xV lets, aE e10, vV v] (resP K))
    (cm : ACalls Try.prog 20 [zF p, zF q] (.pv (cI c)))
    (s1 : ACalls Try.prog 12 [zF m1, zF p] (.pv (cB b1))) (s2 : ACalls Try.prog 12 [zF m2, zF q] (.pv (cB b2))) (s3 : ACalls Try.prog 12 [zF m1, zF q] (.pv (cB b3))) (s4 : ACalls Try.prog 12 [zF m2, zF p] (.pv (cB b4)))
    (s5 : ACalls Try.prog 12 [S.v, S.v] (.pv (cB true))) (s6 : ACalls Try.prog 12 [M.v, M.v] (.pv (cB true))) (bk : Bool) (s7 : ACalls Try.prog 12 [K.v, zF p] (.pv (cB bk)))
    (g1 : sgn r1.num = 1 ↔ c < 0) (g2 : sgn r2.num = 1 ↔ 0 < c) (g3 : sgn r3.num = 1 ↔ c = 0) (g4 : c ≤ 0 → b1 = true ∧ b2 = true) (g5 : 0 ≤ c → b3 = true ∧ b4 = true) (g6 : K.e ≠ 0 ∨ bk = true) :
    ACalls Try.prog 5 [slL lets, aE a, aE b, vV v] (.pv (cB true)) := by
  have h0 := small_ok
  have he := env_ok v
  obtain ⟨S1, S2, S3, S4, S5, q1, q2, q3⟩ := S.split
  obtain ⟨M1, M2, M3, M4, M5, q4, q5, q6⟩ := M.split
  obtain ⟨K1, K2, K3, K4, K5, q7, q8, q9⟩ := K.split
  rw [q1] at v6 v7
  rw [q2] at s5
  rw [q4] at v8 v9
  rw [q5] at s6
  rw [q7] at v10
  rw [q8] at s7
  rw [q9] at g6
  clear q1 q2 q3 q4 q5 q6 q7 q8 q9
  obtain ⟨_, _, _, _, _, q⟩ := aE_gen a
  rw [q] at h1 n1 n2 n3 n4 n5 n6 n7 n8 n9 va ⊢
  clear q
  obtain ⟨_, _, _, _, _, q⟩ := aE_gen b
  rw [q] at h2 n1 n2 n3 n4 n5 n6 n7 n8 n9 n10 vb ⊢
  clear q
  obtain ⟨_, _, _, _, _, q⟩ := aE_gen e1
  rw [q] at n1 v1
  clear q
  obtain ⟨_, _, _, _, _, q⟩ := aE_gen e2
  rw [q] at n2 v2
  clear q
  obtain ⟨_, _, _, _, _, q⟩ := aE_gen e3
  rw [q] at n3 v3
  clear q
  obtain ⟨_, _, _, _, _, q⟩ := aE_gen e4
  rw [q] at n4 v4
  clear q
  obtain ⟨_, _, _, _, _, q⟩ := aE_gen e5
  rw [q] at n5 v5
  clear q
  obtain ⟨_, _, _, _, _, q⟩ := aE_gen e6
  rw [q] at n6 v6 n10
  clear q
  obtain ⟨_, _, _, _, _, q⟩ := aE_gen e7
  rw [q] at n7 v7
  clear q
  obtain ⟨_, _, _, _, _, q⟩ := aE_gen e8
  rw [q] at n8 v8
  clear q
  obtain ⟨_, _, _, _, _, q⟩ := aE_gen e9
  rw [q] at n9 v9
  clear q
  obtain ⟨_, _, _, _, _, q⟩ := aE_gen e10
  rw [q] at n10 v10
  clear q
  obtain ⟨N, V, I, R⟩ := v
  refine ACalls.of_W (qs := [cB true]) [8] 289 Try.func5 (by kernel_rfl) rfl rfl rfl fun G => ?_
  refine W.initA (hw := ?_)
  repeat' (first | (refine W.purgeR [(8, [5, 6, 7, 9, 10, 11, 12, 13, 14, 15, 16]), (10, [5, 6, 7, 9, 10, 11, 13, 15, 16]), (14, [5, 6, 7, 9, 10, 11, 13, 15, 16, 17, 18, 19, 20, 21, 22, 23, 24]), (16, [5, 6, 7, 9, 10, 11, 13, 15, 17, 19, 21, 23]), (21, [5, 6, 7, 9, 10, 11]), (25, [5, 6, 7, 9, 10, 11, 28, 29, 30, 31, 32, 33, 34, 35]), (27, [5, 6, 7, 9, 10, 11])] rfl (by repeat (first | exact PN.nil | apply PN.po rfl | (apply PN.pa; exact rfl; (repeat (first | (apply NR.cons; exact rfl) | exact NR.nil rfl))) | apply PN.a rfl | apply PN.s rfl | apply PN.u rfl | apply PN.m rfl | apply PN.k rfl | apply PN.i rfl | apply PN.skip)) (by repeat (first | exact PB.nil | (apply PB.one; exact rfl; (focus (first | (dsimp only; done) | (dsimp only; exact rfl) | exact rfl)); (focus (first | (dsimp only; done) | (dsimp only; exact rfl) | exact rfl)); exact rfl; (repeat (first | (apply NR.cons; exact rfl) | exact NR.nil rfl)))  | apply PB.cons rfl)) ?_) | ((first | apply U_ | (apply Ug_; exact rfl; exact rfl) | (apply Ugq_; exact rfl; exact rfl)); (first | exact QX.B TYok | exact QX.Ext TYok | exact QX.Build TYok | exact QCd (h0) | exact QCd (h1) | exact QCd (h2) | exact QCd (he) | exact QCd (n1) | exact QCd (n2) | exact QCd (n3) | exact QCd (n4) | exact QCd (n5) | exact QCd (n6) | exact QCd (n7) | exact QCd (n8) | exact QCd (n9) | exact QCd (n10) | exact QCd (va) | exact QCd (vb) | exact QCd (v1) | exact QCd (v2) | exact QCd (v3) | exact QCd (v4) | exact QCd (v5) | exact QCd (v6) | exact QCd (v7) | exact QCd (v8) | exact QCd (v9) | exact QCd (v10) | exact QCd (cm) | exact QCd (s1) | exact QCd (s2) | exact QCd (s3) | exact QCd (s4) | exact QCd (s5) | exact QCd (s6) | exact QCd (s7)); exact rfl) | refine SX.Alloc TYok (h := ?_) | refine SX.Store TYok (h := ?_) | refine SX.Box TYok (h := ?_) | refine SC ?_ | (apply S_isnil TYok; exact rfl; exact rfl; exact rfl; exact Ev.auto; intro bn hnil) | (apply RG.gT; exact rfl; exact rfl; (first | assumption | decide)) | (apply RG.gF; exact rfl; exact rfl; (first | assumption | decide | (rw [ne_eq, Bool.not_eq_true]; assumption) | (rw [ne_eq, Bool.not_eq_false]; assumption)); exact rfl) | apply LexS.nil | (apply LexS.f; exact rfl; (first | (apply FreshV.alloc TYok; exact rfl; exact rfl; exact rfl; exact rfl) | (apply FreshV.lit TYok; (repeat (first | exact EvR.nil | apply EvR.cons Ev.auto)); exact rfl; exact rfl; exact rfl; exact rfl; exact rfl; exact rfl; exact rfl; exact rfl; exact rfl) | (apply FreshV.box; exact Ev.auto; exact rfl; exact rfl; exact rfl)); exact rfl; exact rfl; exact rfl) | (apply LexS.s; exact rfl; exact rfl; (apply StoreV.mk TYok; exact Ev.auto; exact Ev.auto; exact rfl; exact rfl; exact rfl; exact rfl; exact rfl)) | ((first | apply LexS.u | (apply LexS.g; exact rfl; exact rfl) | (apply LexS.gq; exact rfl; exact rfl)); (repeat (first | (apply NB.cons; exact rfl) | exact NB.nil rfl)); (first | exact QX.B TYok | exact QX.Ext TYok | exact QX.Build TYok | exact QCd (h0) | exact QCd (h1) | exact QCd (h2) | exact QCd (he) | exact QCd (n1) | exact QCd (n2) | exact QCd (n3) | exact QCd (n4) | exact QCd (n5) | exact QCd (n6) | exact QCd (n7) | exact QCd (n8) | exact QCd (n9) | exact QCd (n10) | exact QCd (va) | exact QCd (vb) | exact QCd (v1) | exact QCd (v2) | exact QCd (v3) | exact QCd (v4) | exact QCd (v5) | exact QCd (v6) | exact QCd (v7) | exact QCd (v8) | exact QCd (v9) | exact QCd (v10) | exact QCd (cm) | exact QCd (s1) | exact QCd (s2) | exact QCd (s3) | exact QCd (s4) | exact QCd (s5) | exact QCd (s6) | exact QCd (s7)); exact rfl; exact rfl; exact rfl) | (refine W.drawS (id := 5) [0, 0, 0, 4, 15, 31, 63, 63, 0, 383, 1023] [[10], [5], [7], [55], [53, 54, 56], [57], [52], [52], [], [11, 58], [59]] [(9, (11, ?_)), (8, (11, ?_))] [(9, 11), (8, 11)] mixed (by kernel_rfl) rfl ?_; rotate_left 2) | (refine W.drawS (id := 6) [0, 0, 0, 4, 15, 31, 63, 63, 0, 383, 1023] [[10], [6], [7], [63], [61, 62, 64], [65], [60], [60], [], [13, 66], [67]] [(9, (13, ?_)), (8, (13, ?_))] [(9, 13), (8, 13)] mixed (by kernel_rfl) rfl ?_; rotate_left 2) | (refine W.drawS (id := 7) [0, 0, 0, 6, 0, 30, 63, 127, 255, 255, 0, 1535, 4095] [[10], [5], [6], [70, 71], [7], [73], [69, 72, 74], [75], [68], [68], [], [15, 76], [77]] [(11, (15, ?_)), (10, (15, ?_))] [(11, 15), (10, 15)] mixed (by kernel_rfl) rfl ?_; rotate_left 2) | (refine W.drawS (id := 10) [0, 0, 0, 6, 0, 30, 63, 127, 255, 255, 0, 1535, 4095] [[10], [6], [5], [91, 92], [7], [94], [90, 93, 95], [96], [89], [89], [], [17, 97], [98]] [(11, (17, ?_)), (10, (17, ?_))] [(11, 17), (10, 17)] mixed (by kernel_rfl) rfl ?_; rotate_left 2) | (refine W.drawS (id := 11) [0, 0, 0, 6, 0, 30, 63, 127, 255, 255, 0, 1535, 4095] [[10], [5], [6], [101, 102], [7], [104], [100, 103, 105], [106], [99], [99], [], [19, 107], [108]] [(11, (19, ?_)), (10, (19, ?_))] [(11, 19), (10, 19)] mixed (by kernel_rfl) rfl ?_; rotate_left 2) | (refine W.drawS (id := 12) [0, 0, 0, 6, 0, 30, 63, 127, 255, 255, 0, 1535, 4095] [[10], [5], [6], [111, 112], [7], [114], [110, 113, 115], [116], [109], [109], [], [21, 117], [118]] [(11, (21, ?_)), (10, (21, ?_))] [(11, 21), (10, 21)] mixed (by kernel_rfl) rfl ?_; rotate_left 2) | (refine W.drawS (id := 13) [0, 0, 0, 6, 0, 30, 63, 127, 255, 255, 0, 1535, 4095] [[10], [5], [6], [121, 122], [7], [124], [120, 123, 125], [126], [119], [119], [], [23, 127], [128]] [(11, (23, ?_)), (10, (23, ?_))] [(11, 23), (10, 23)] mixed (by kernel_rfl) rfl ?_; rotate_left 2) | (refine W.drawS (id := 21) [0, 0, 0, 6, 0, 30, 63, 127, 255, 255, 0, 1535, 4095] [[10], [5], [6], [209, 210], [7], [212], [208, 211, 213], [214], [207], [207], [], [28, 215], [216]] [(11, (28, ?_)), (10, (28, ?_))] [(11, 28), (10, 28)] mixed (by kernel_rfl) rfl ?_; rotate_left 2) | (refine W.drawS (id := 22) [0, 0, 0, 6, 0, 30, 63, 127, 255, 255, 0, 1535, 4095] [[10], [6], [5], [219, 220], [7], [222], [218, 221, 223], [224], [217], [217], [], [30, 225], [226]] [(11, (30, ?_)), (10, (30, ?_))] [(11, 30), (10, 30)] mixed (by kernel_rfl) rfl ?_; rotate_left 2) | (refine W.drawS (id := 23) [0, 0, 0, 6, 0, 30, 63, 127, 255, 255, 0, 1535, 4095] [[10], [5], [6], [229, 230], [7], [232], [228, 231, 233], [234], [227], [227], [], [32, 235], [236]] [(11, (32, ?_)), (10, (32, ?_))] [(11, 32), (10, 32)] mixed (by kernel_rfl) rfl ?_; rotate_left 2) | (refine W.drawS (id := 24) [0, 0, 0, 6, 0, 30, 63, 127, 255, 255, 0, 1535, 4095] [[10], [6], [5], [239, 240], [7], [242], [238, 241, 243], [244], [237], [237], [], [34, 245], [246]] [(11, (34, ?_)), (10, (34, ?_))] [(11, 34), (10, 34)] mixed (by kernel_rfl) rfl ?_; rotate_left 2) | (refine W.drawS (id := 27) [0, 0, 0, 6, 0, 30, 0, 126, 255, 511, 1023, 1023, 0, 6143, 16383] [[10], [5], [6], [269, 270], [6], [271, 272], [7], [274], [268, 273, 275], [276], [267], [267], [], [36, 277], [278]] [(13, (36, ?_)), (12, (36, ?_))] [(13, 36), (12, 36)] mixed (by kernel_rfl) rfl ?_; rotate_left 2) | (refine W.condA (ht := fun hb => ?_) (hf := fun hb => ?_) <;> (try simp at hb) <;> (try (exfalso; first | exact (order_bad g1 g2 g3 g4 g5) hb | omega))))
  all_goals first
    | exact Fin.ret ResL.auto
    | exact Fin.retB rfl (by simp; exact g6)
    | (exfalso; omega)
    | trace_state
end
end Go.Proofs.Ytjedkgogjehigaa
end
section
set_option linter.unusedVariables false
set_option linter.unusedSimpArgs false
set_option maxHeartbeats 8000000
set_option linter.unusedSectionVars false
namespace Go.Proofs.Ytjedkgogjehigaa
open Lf Go
attribute [local irreducible] PureOp EffOp Ev RG W Then InBlock Lf.Fin nth App InitE Pick SubE EvL EvD EvP EvR ResL Lf.Lex SubR SubBR EvC FinO FinM ResM ResD FinS val pw digs trimL
section
variable {lets : List Let} {en : EnvQ} {v : EnvV}
theorem cmpR_eq {p q : Rat} (h : cmpR p q = 0) : p = q := by
  rcases cmpR_cases p q with ⟨h1, _⟩ | ⟨_, h2⟩ | ⟨h1, _⟩
  · omega
  · exact h2
  · omega
attribute [local irreducible] sgn mag gcdZ quoZ remZ fullZ fullE
theorem same_any2 (p : Rat) (op : okF p) : ∃ b, ACalls Try.prog 12 [zF0, zF p] (.pv (cB b)) := by
  have hp := num_len op.1
  have hp2 := num_len op.2
  have s1 := sameBig_ok 0 (sgn p.num) [] (digs (mag p.num)) (by simp) (by omega)
  have s2 := sameBig_ok 0 (sgn p.den) [] (digs (mag p.den)) (by simp) (by omega)
  generalize (decide ((0 : Int) = sgn p.num) && decide ([] = digs (mag p.num))) = b1 at *
  generalize (decide ((0 : Int) = sgn p.den) && decide ([] = digs (mag p.den))) = b2 at *
  refine ⟨b1 && b2, ?_⟩
  refine ACalls.of_W (qs := [cB (b1 && b2)]) [4] 17 Try.func12 (by kernel_rfl) rfl rfl rfl fun G => ?_
  refine W.initA (hw := ?_)
  repeat' (first | ((first | apply U_ | (apply Ug_; exact rfl; exact rfl) | (apply Ugq_; exact rfl; exact rfl)); (first | exact QX.B TYok | exact QCd (s1) | exact QCd (s2)); exact rfl) | refine SX.Box TYok (h := ?_) | refine SC ?_ | (apply RG.gT; exact rfl; exact rfl; (first | assumption | decide)) | (apply RG.gF; exact rfl; exact rfl; (first | assumption | decide | (rw [ne_eq, Bool.not_eq_true]; assumption) | (rw [ne_eq, Bool.not_eq_false]; assumption)); exact rfl) | (refine W.condA (ht := fun hb => ?_) (hf := fun hb => ?_) <;> (try simp at hb) <;> (try (exfalso; omega))))
  all_goals exact Fin.ret ResL.auto
theorem order_ok (hl : LIn lets) (a b : Exp) (oa : OkE a) (ob : OkE b) (v : EnvV) (hv : v.Len) : ACalls Try.prog 5 [slL lets, aE a, aE b, vV v] (.pv (cB true)) := by
  have h1 := few_ok hl a oa v hv
  have h2 := fewE_ok b ob 15 (by omega) (by omega)
  obtain ⟨R1, v1, f1, k1⟩ := value_res hl oa hv
  obtain ⟨R2, v2, f2, k2⟩ := value_res hl ob hv
  obtain ⟨R3, v3, f3, k3⟩ := value_res hl (okNode (op := 10) oa ob) hv
  by_cases hr : R1.e ≠ 0 ∨ R2.e ≠ 0 ∨ R3.e = 1
  · exact order_ret h1 h2 v1 v2 v3 hr
  have r1 : R1.e = 0 := by omega
  have r2 : R2.e = 0 := by omega
  have r3 : R3.e ≠ 1 := by omega
  obtain ⟨en, oen, hL, rfl, s1, e1⟩ := k1 (by omega)
  obtain ⟨en2, _, _, w2, s2, e2⟩ := k2 (by omega)
  obtain ⟨en3, _, _, w3, s3, e3⟩ := k3 r3
  obtain rfl := V_inj w2
  clear e3 w2 w3 v3 f3 k1 k2 k3
  cases R1 with
  | err c => exact absurd r1 f1
  | ok p =>
  cases R2 with
  | err c => exact absurd r2 f2
  | ok q =>
  have op : okF p := f1
  have oq : okF q := f2
  have st : ∀ o, 4 ≤ o ∧ o ≤ 11 → statF (nodeE o a b) = true ∧ statF (nodeE o b a) = true := fun o ho => stat_swap (.inl (by omega)) (.inl ho) s3
  have V : ∀ o, 4 ≤ o ∧ o ≤ 11 → ACalls Try.prog 8 [xV lets, aE (nodeE o a b), vV en.V] (resP (binF o p q)) ∧ ACalls Try.prog 8 [xV lets, aE (nodeE o b a), vV en.V] (resP (binF o q p)) := fun o ho =>
    ⟨(val_ok hL oen (okNode oa ob) (st o ho).1 (val_two ho e1.symm e2.symm)).1, (val_ok hL oen (okNode ob oa) (st o ho).2 (val_two ho e2.symm e1.symm)).1⟩
  have c1 := (V 10 (by omega)).1
  have c2 := (V 10 (by omega)).2
  have c3 := (V 11 (by omega)).1
  have c4 := (V 8 (by omega)).1
  have c5 := (V 9 (by omega)).1
  have c6 := V 4 (by omega)
  have c8 := V 6 (by omega)
  rw [bin10] at c1 c2
  rw [bin11] at c3
  rw [bin8] at c4
  rw [bin9] at c5
  rw [bin4, bin4, addR_comm q p] at c6
  rw [bin6, bin6, mulR_comm q p] at c8
  obtain ⟨K, c10, hK⟩ := val_back hl hv hL oen oa ob e1.symm e2.symm
  have om1 : okF (if cmpR p q ≤ 0 then p else q) := by split <;> assumption
  have om2 : okF (if cmpR p q ≤ 0 then q else p) := by split <;> assumption
  have hk : ∃ bk, ACalls Try.prog 12 [K.v, zF p] (.pv (cB bk)) ∧ (K.e ≠ 0 ∨ bk = true) := by
    rcases hK with h | rfl
    · obtain ⟨x1, x2, x3, x4, hx⟩ := K.v_agg
      cases K with
      | ok r => exact absurd rfl h
      | err c =>
        have hp := num_len op.1
        have hp2 := num_len op.2
        obtain ⟨bk, hb⟩ := same_any2 p op
        exact ⟨bk, hb, .inl h⟩
    · have := same_ok p p op op
      rw [decide_eq_true rfl] at this
      exact ⟨true, this, .inr rfl⟩
  obtain ⟨bk, c11, hbk⟩ := hk
  refine order_walk a b _ _ _ _ _ _ _ _ _ _ _ _ p q _ _ _ _ _ (cmpR p q) _ _ _ _ (addR p q) (mulR p q) K h1 h2 (node_ok 10 a b) (node_ok 10 b a) (node_ok 11 a b) (node_ok 8 a b) (node_ok 9 a b) (node_ok 4 a b) (node_ok 4 b a) (node_ok 6 a b) (node_ok 6 b a) (node_ok 5 (nodeE 4 a b) b)
    v1 v2 c1 c2 c3 c4 c5 c6.1 c6.2 c8.1 c8.2 c10 (fcmp_ok p q op oq) (same_ok _ p om1 op) (same_ok _ q om2 oq) (same_ok _ q om1 oq) (same_ok _ p om2 op) (sameV_ok _ (addR_fit p q)) (sameV_ok _ (mulR_fit p q)) bk c11 ?_ ?_ ?_ ?_ ?_ hbk
  · rw [one01_sgn, decide_eq_true_iff]
  · rw [one01_sgn, decide_eq_true_iff, cmpR_swap]; omega
  · rw [one01_sgn, decide_eq_true_iff]
  · intro h
    rw [if_pos h, if_pos h, decide_eq_true rfl, decide_eq_true rfl]
    exact ⟨rfl, rfl⟩
  · intro h
    by_cases h2 : cmpR p q ≤ 0
    · have := cmpR_eq (show cmpR p q = 0 by omega)
      subst this
      simp
    · rw [if_neg h2, if_neg h2, decide_eq_true rfl, decide_eq_true rfl]
      exact ⟨rfl, rfl⟩
end
end Go.Proofs.Ytjedkgogjehigaa
end
section
set_option linter.unusedVariables false
set_option linter.unusedSimpArgs false
set_option linter.unusedSectionVars false
namespace Lf
open Go Go.RowKit Go.ChangeShapes Go.WideShapes Go.ChangeAt
def okK (T : TT) (R : Nat → Bool) (ti : TI) : Bool := match ti.kind with
  | .int _ | .bool | .string => Nat.beq ti.sz 1
  | .slice e => Nat.beq ti.sz 1 && R e && (match T e with | some te => Nat.blt 0 te.sz | none => false)
  | .struct fs => (match tile T 0 fs with | some s => Nat.beq s ti.sz | none => false) && fs.all fun f => R f.2
  | _ => false
def supR (T : TT) : Nat → Nat → Bool
  | 0, _ => true
  | n + 1, t => match T t with
    | some ti => okK T (supR T n) ti
    | none => false
def closedB (T : TT) (S : List Nat) : Bool := S.all fun t => match T t with | some ti => okK T (fun e => S.contains e) ti | none => false
theorem okK_mono {T : TT} {R R' : Nat → Bool} {ti : TI} (h : ∀ e, R e = true → R' e = true) (hk : okK T R ti = true) : okK T R' ti = true := by
  unfold okK at hk ⊢
  split at hk
  · exact hk
  · exact hk
  · exact hk
  · simp only [Bool.and_eq_true] at hk ⊢
    exact ⟨⟨hk.1.1, h _ hk.1.2⟩, hk.2⟩
  · simp only [Bool.and_eq_true, List.all_eq_true] at hk ⊢
    exact ⟨hk.1, fun f hf => h _ (hk.2 f hf)⟩
  · cases hk
theorem supR_closed {T : TT} {S : List Nat} (h : closedB T S = true) : ∀ (n t : Nat), t ∈ S → supR T n t = true
  | 0, _, _ => rfl
  | n + 1, t, ht => by
    have h1 := List.all_eq_true.1 h t ht
    rw [supR]
    cases hti : T t with
    | none => rw [hti] at h1; cases h1
    | some ti =>
      rw [hti] at h1
      exact okK_mono (fun e he => supR_closed h n e (by simpa using he)) h1
section
variable {P : Program} {T : TT} (hT : TOK P T)
include hT
theorem readR {H : Type} {enc : TypeId × Value → H} {w : World} {base : Nat} {spare : Nat → Bool} {held : Bool} : ∀ (n t fuel : Nat) (cs : List Value) (x : DataW H × List MemPlace), fuel ≤ n → supR T n t = true → DataW.trod enc P w base spare held fuel t cs = some x →
    ∃ cl, RelL (allΦ w) cs cl ∧ TyL T n t cl ∧ ∀ ti, T t = some ti → cl.length = ti.sz := by
  intro n
  induction n with
  | zero =>
    intro t fuel cs x hf hs h
    obtain rfl : fuel = 0 := by omega
    simp [DataW.trod] at h
  | succ n ih =>
    intro t fuel cs x hf hs h
    cases hti : T t with
    | none => simp [supR, hti] at hs
    | some ti =>
      have hk := (hT t ti hti).kind
      have hz := cellsOf_ti hT hti
      simp only [supR, hti, okK] at hs
      simp only [TyL, hti, Option.map_some]
      cases hkd : ti.kind with
      | int k =>
        rw [hkd] at hk hs
        obtain ⟨i, rfl, hx, hw⟩ := DataW.trod_int hk h
        exact ⟨[.int k i], ⟨.int k i, trivial⟩, ⟨i, rfl, hw⟩, fun tj hj => by obtain rfl := Option.some.inj hj; simpa using (Nat.eq_of_beq_eq_true hs).symm⟩
      | bool =>
        rw [hkd] at hk hs
        obtain ⟨b, rfl, hx⟩ := DataW.trod_bool hk h
        exact ⟨[.bool b], ⟨.bool b, trivial⟩, ⟨b, rfl⟩, fun tj hj => by obtain rfl := Option.some.inj hj; simpa using (Nat.eq_of_beq_eq_true hs).symm⟩
      | string =>
        rw [hkd] at hk hs
        obtain ⟨s, rfl, hx, hw⟩ := DataW.trod_string hk h
        refine ⟨[.str s.data.toList], ⟨.str s, trivial⟩, ⟨_, rfl, ?_⟩, fun tj hj => by obtain rfl := Option.some.inj hj; simpa using (Nat.eq_of_beq_eq_true hs).symm⟩
        rw [Array.length_toList]; exact hw
      | slice e =>
        rw [hkd] at hk hs
        simp only [Bool.and_eq_true] at hs
        obtain ⟨⟨hs1, hs2⟩, hs3⟩ := hs
        cases hte : T e with
        | none => rw [hte] at hs3; cases hs3
        | some te =>
          rw [hte] at hs3
          have hpos := blt_lt hs3
          have hze := cellsOf_ti hT hte
          have hlen1 : ∀ tj, some ti = some tj → 1 = tj.sz := fun tj hj => by obtain rfl := Option.some.inj hj; exact (Nat.eq_of_beq_eq_true hs1).symm
          rcases DataW.trod_slice hk h with ⟨rfl, hx⟩ | ⟨a, len, cap, elems, rest, m, rfl, rfl, hx, hb, hl, hm, hel, hget, _, _⟩
          · exact ⟨[.sl []], ⟨.sl0, trivial⟩, ⟨[], rfl, Nat.zero_le _, fun r hr => by cases hr⟩, hlen1⟩
          · have each : ∀ i, i < len → ∃ cl : List Cell, ∃ ci, w.cells? base (a.add (i * P.cellsOf e)) (P.cellsOf e) = some ci ∧ RelL (allΦ w) ci cl ∧ TyL T n e cl ∧ cl.length = te.sz := by
              intro i hi
              have h1 := hget i hi
              rw [List.getElem?_eq_getElem (by omega)] at h1
              cases hc : w.cells? base (a.add (i * P.cellsOf e)) (P.cellsOf e) with
              | none => rw [hc] at h1; cases h1
              | some ci =>
                rw [hc] at h1
                obtain ⟨cl, g1, g2, g3⟩ := ih e m ci _ (by omega) hs2 h1
                exact ⟨cl, ci, rfl, g1, g2, g3 te hte⟩
            obtain ⟨rows, hr1, hr2⟩ := pick_rows each
            refine ⟨[.sl rows], ⟨?_, trivial⟩, ⟨rows, rfl, by omega, fun r hr => ?_⟩, hlen1⟩
            · by_cases h0 : len = 0
              · subst h0
                obtain rfl : rows = [] := List.eq_nil_of_length_eq_zero hr1
                exact .slE a cap
              · obtain ⟨b, off, spot⟩ := a
                have cellat : ∀ i j r c, rows[i]? = some r → r[j]? = some c → ∃ v, w.cell? (Addr.add (Addr.add ⟨b, off, spot⟩ (i * te.sz)) j) = some v ∧ Rel (allΦ w) v c := by
                  intro i j r c h1 h2
                  obtain ⟨ci, g1, g2, g3, g4⟩ := hr2 i r h1
                  obtain ⟨v, hv1, hv2⟩ := g2.get h2
                  rw [hze] at g1
                  have hj : j < te.sz := by have := (List.getElem?_eq_some_iff.1 h2).1; omega
                  have := World.cells?_some g1
                  refine ⟨v, ?_, hv2⟩
                  rw [← hv1]
                  exact this.2.2 j hj
                have hrow0 : ∃ r, rows[0]? = some r := ⟨rows[0]'(by omega), List.getElem?_eq_getElem (by omega)⟩
                obtain ⟨r0, hr0⟩ := hrow0
                obtain ⟨_, _, _, _, hl0⟩ := hr2 0 r0 hr0
                obtain ⟨v0, hv0, _⟩ := cellat 0 0 r0 _ hr0 (List.getElem?_eq_getElem (show 0 < r0.length by omega))
                have hz0 : Addr.add (Addr.add ⟨b, off, spot⟩ (0 * te.sz)) 0 = ⟨b, off, spot⟩ := by simp [Addr.add]
                rw [hz0] at hv0
                have hsp : spot = none := (cell_all hv0).1
                subst hsp
                refine .sl b off len cap te.sz rows (fun i j => ((allΦ w b).bind (·[off + (i * te.sz + j)]?)).getD .nilFunc) hr1 hl (fun r hr => ?_) (fun i j r c h1 h2 => ?_) (fun i j r c h1 h2 => ?_)
                · obtain ⟨i, hi⟩ := List.getElem?_of_mem hr
                  obtain ⟨_, _, _, _, g⟩ := hr2 i r hi
                  exact g
                · obtain ⟨v, hv, _⟩ := cellat i j r c h1 h2
                  have := (cell_all hv).2
                  simp only [Addr.add_lit] at this
                  rw [show off + (i * te.sz + j) = off + i * te.sz + j by omega, this]; rfl
                · obtain ⟨v, hv, hv2⟩ := cellat i j r c h1 h2
                  have := (cell_all hv).2
                  simp only [Addr.add_lit] at this
                  rw [show off + (i * te.sz + j) = off + i * te.sz + j by omega, this]; exact hv2
            · obtain ⟨i, hi⟩ := List.getElem?_of_mem hr
              obtain ⟨_, _, _, g, _⟩ := hr2 i r hi
              exact g
      | struct fs =>
        rw [hkd] at hk hs
        obtain ⟨fields, hu, hfs⟩ := hk
        simp only [Bool.and_eq_true] at hs
        obtain ⟨hs1, hs2⟩ := hs
        cases htl : tile T 0 fs with
        | none => rw [htl] at hs1; cases hs1
        | some tot =>
          rw [htl] at hs1
          have htot := Nat.eq_of_beq_eq_true hs1
          obtain ⟨xs, m, rfl, hx, hlen, hxl, hget⟩ := DataW.trod_struct hu h
          have hall : ∀ f ∈ fs, ∃ y, DataW.trod enc P w base spare held m f.2 ((cs.drop f.1).take (P.cellsOf f.2)) = some y := by
            intro f hf
            rw [← hfs] at hf
            obtain ⟨g, hg, rfl⟩ := List.mem_map.1 hf
            obtain ⟨i, hi⟩ := List.getElem?_of_mem hg
            have hi' : fields[i]? = some g := by rw [← hi]; simp
            have hlt : i < xs.length := by rw [hxl]; exact (Array.getElem?_eq_some_iff.1 hi').1
            exact ⟨xs[i], by rw [hget i g hi', List.getElem?_eq_getElem hlt]⟩
          have main : ∀ (gs : List (Nat × Nat)) (o : Nat), (∀ f ∈ gs, ∃ y, DataW.trod enc P w base spare held m f.2 ((cs.drop f.1).take (P.cellsOf f.2)) = some y) → gs.all (fun f => supR T n f.2) = true → tile T o gs = some tot → cs.length = tot →
              ∃ cl, RelL (allΦ w) (cs.drop o) cl ∧ TyS (TyL T n) gs cl ∧ o + cl.length = tot := by
            intro gs
            induction gs with
            | nil =>
              intro o _ _ h1 h2
              simp only [tile, Option.some.injEq] at h1
              refine ⟨[], ?_, rfl, by simp [h1]⟩
              rw [List.drop_eq_nil_of_le (by omega)]
              trivial
            | cons f gs ihs =>
              intro o hall' hsup h1 h2
              obtain ⟨fo, ft⟩ := f
              rw [tile] at h1
              cases hbe : Nat.beq fo o with
              | false => rw [hbe] at h1; cases h1
              | true =>
                have := Nat.eq_of_beq_eq_true hbe
                subst this
                rw [hbe, cond_true] at h1
                cases htf : T ft with
                | none => rw [htf] at h1; cases h1
                | some tf =>
                  rw [htf] at h1
                  simp only [Option.bind_some] at h1
                  simp only [List.all_cons, Bool.and_eq_true] at hsup
                  obtain ⟨y, hy⟩ := hall' _ (List.mem_cons_self ..)
                  obtain ⟨c1, a1, a2, a3⟩ := ih ft m _ y (by omega) hsup.1 hy
                  obtain ⟨c2, b1, b2, b3⟩ := ihs (fo + tf.sz) (fun g hg => hall' g (List.mem_cons_of_mem _ hg)) hsup.2 h1 h2
                  have hl1 := a3 tf htf
                  refine ⟨c1 ++ c2, ?_, ⟨c1, c2, rfl, a2, b2⟩, by simp; omega⟩
                  have e : cs.drop fo = (cs.drop fo).take tf.sz ++ cs.drop (fo + tf.sz) := by
                    rw [← List.drop_drop, List.take_append_drop]
                  rw [e]
                  rw [cellsOf_ti hT htf] at a1
                  exact a1.append b1
          obtain ⟨cl, c1, c2, c3⟩ := main fs 0 hall hs2 htl (by rw [hlen, hz, htot])
          refine ⟨cl, by simpa using c1, c2, fun tj hj => ?_⟩
          obtain rfl := Option.some.inj hj
          omega
      | array k e => rw [hkd] at hs; cases hs
      | ptr e => rw [hkd] at hs; cases hs
      | map k e => rw [hkd] at hs; cases hs
      | func => rw [hkd] at hs; cases hs
      | iface => rw [hkd] at hs; cases hs
      | other => rw [hkd] at hs; cases hs
/-- A slice that came in. -/
theorem readR_slice {H : Type} {enc : TypeId × Value → H} {w : World} {base b0 : Nat} {spare : Nat → Bool} {held : Bool} {r : Reach} {t e : Nat} {v : Value} {d : DataW H} {ps : List MemPlace} {S : List Nat} (hS : closedB T S = true) (hm : t ∈ S) (hu : P.underlying t = some (.slice e))
    (hval : Value.okWide P w r b0 t v) (hd : DataW.Trod enc P w base spare held t v d ps) : ∃ n c, Rel (allΦ w) v c ∧ TyL T n t [c] := by
  obtain ⟨a, len, cap, rfl⟩ := okWide_slice hu hval
  obtain ⟨fuel, hf⟩ := hd
  obtain ⟨cl, h1, h2, _⟩ := readR hT fuel t fuel _ _ (Nat.le_refl _) (supR_closed hS _ _ hm) hf
  simp only [Value.cells] at h1
  match cl, h1, h2 with
  | [c], h1, h2 => exact ⟨_, c, h1.1, h2⟩
/-- A struct that came in. -/
theorem readR_struct {H : Type} {enc : TypeId × Value → H} {w : World} {base b0 : Nat} {spare : Nat → Bool} {held : Bool} {r : Reach} {t : Nat} {fs : Array Field} {v : Value} {d : DataW H} {ps : List MemPlace} {S : List Nat} (hS : closedB T S = true) (hm : t ∈ S) (hu : P.underlying t = some (.struct fs))
    (hval : Value.okWide P w r b0 t v) (hd : DataW.Trod enc P w base spare held t v d ps) : ∃ n cs, PRel (allΦ w) v (.agg cs) ∧ TyL T n t cs := by
  obtain ⟨arr, rfl, _⟩ := okWide_struct hu hval
  obtain ⟨fuel, hf⟩ := hd
  obtain ⟨cl, h1, h2, _⟩ := readR hT fuel t fuel _ _ (Nat.le_refl _) (supR_closed hS _ _ hm) hf
  exact ⟨_, cl, ⟨arr, rfl, h1⟩, h2⟩
end
end Lf
end
section
namespace Go.Proofs.Ytjedkgogjehigaa
open Lf Go
theorem exp_of : ∀ (n : Nat) {cs : List Cell}, TyL TY n 25 cs → ∃ e : Exp, cs = encX e ∧ OkE e
  | 0, cs, h => h.elim
  | 1, cs, h => by
    obtain ⟨a1, b1, rfl, t1, -⟩ : ∃ a1 b1, cs = a1 ++ b1 ∧ TyL TY 0 3 a1 ∧ True := by
      obtain ⟨a1, b1, h1, h2, _⟩ := h; exact ⟨a1, b1, h1, h2, trivial⟩
    exact t1.elim
  | n + 2, cs, h => by
    obtain ⟨a1, b1, rfl, t1, a2, b2, rfl, t2, a3, b3, rfl, t3, a4, b4, rfl, t4, a5, b5, rfl, t5, rfl⟩ : ∃ a1 b1, cs = a1 ++ b1 ∧ TyL TY (n + 1) 3 a1 ∧ ∃ a2 b2, b1 = a2 ++ b2 ∧ TyL TY (n + 1) 3 a2 ∧ ∃ a3 b3, b2 = a3 ++ b3 ∧ TyL TY (n + 1) 3 a3 ∧ ∃ a4 b4, b3 = a4 ++ b4 ∧ TyL TY (n + 1) 9 a4 ∧ ∃ a5 b5, b4 = a5 ++ b5 ∧ TyL TY (n + 1) 23 a5 ∧ b5 = [] := h
    obtain ⟨i1, rfl, _⟩ : ∃ i, a1 = [.int .i64 i] ∧ (Lit.int .i64 i).wf = true := t1
    obtain ⟨i2, rfl, _⟩ : ∃ i, a2 = [.int .i64 i] ∧ (Lit.int .i64 i).wf = true := t2
    obtain ⟨i3, rfl, _⟩ : ∃ i, a3 = [.int .i64 i] ∧ (Lit.int .i64 i).wf = true := t3
    obtain ⟨s, rfl, hs⟩ : ∃ s, a4 = [.str s] ∧ s.length ≤ maxLen := t4
    obtain ⟨rows, rfl, hl, hr⟩ : ∃ rows, a5 = [Cell.sl rows] ∧ rows.length ≤ maxLen ∧ ∀ r ∈ rows, TyL TY n 25 r := t5
    obtain ⟨l, rfl, ho⟩ := rows_map (f := encX) (p := OkE) fun r hr' => exp_of n (hr r hr')
    refine ⟨.mk i1 i2 i3 s l, ?_, .mk (by unfold maxLen at hs; omega) (by simp only [List.length_map] at hl; unfold maxLen at hl; omega) ho⟩
    have := aE_mk i1 i2 i3 s l
    injection this with this
    exact this.symm
theorem let_of : ∀ (n : Nat) {cs : List Cell}, TyL TY n 56 cs → ∃ x : Let, cs = encL x ∧ OkE x.body
  | 0, cs, h => h.elim
  | 1, cs, h => by
    obtain ⟨a1, b1, rfl, t1, -⟩ : ∃ a1 b1, cs = a1 ++ b1 ∧ TyL TY 0 9 a1 ∧ True := by
      obtain ⟨a1, b1, h1, h2, _⟩ := h; exact ⟨a1, b1, h1, h2, trivial⟩
    exact t1.elim
  | n + 2, cs, h => by
    obtain ⟨a1, b1, rfl, t1, a2, b2, rfl, t2, rfl⟩ : ∃ a1 b1, cs = a1 ++ b1 ∧ TyL TY (n + 1) 9 a1 ∧ ∃ a2 b2, b1 = a2 ++ b2 ∧ TyL TY (n + 1) 25 a2 ∧ b2 = [] := h
    obtain ⟨s, rfl, hs⟩ : ∃ s, a1 = [.str s] ∧ s.length ≤ maxLen := t1
    obtain ⟨e, rfl, he⟩ := exp_of _ t2
    exact ⟨⟨s, e⟩, rfl, he⟩
theorem lets_in : ∀ (n : Nat) {c : Cell}, TyL TY n 22 [c] → ∃ l : List Let, c = .sl (l.map encL) ∧ LIn l
  | 0, c, h => h.elim
  | n + 1, c, h => by
    obtain ⟨rows, h1, hl, h3⟩ : ∃ rows, [c] = [Cell.sl rows] ∧ rows.length ≤ maxLen ∧ ∀ r ∈ rows, TyL TY n 56 r := h
    obtain rfl := (List.cons.inj h1).1
    obtain ⟨l, rfl, ho⟩ := rows_map (f := encL) (p := fun y => OkE y.body) fun r hr => let_of n (h3 r hr)
    exact ⟨l, rfl, by simp only [List.length_map] at hl; unfold maxLen at hl; omega, ho⟩
theorem int_of1 {n : Nat} {cs : List Cell} (h : TyL TY (n + 1) 3 cs) : ∃ i : Int, cs = Lf.encI i ∧ True := by
  obtain ⟨i, rfl, _⟩ : ∃ i, cs = [.int .i64 i] ∧ (Lit.int .i64 i).wf = true := h
  exact ⟨i, rfl, trivial⟩
structure BV where
  s : Int
  l : List Int
abbrev encBV (b : BV) : List Cell := [.int .i64 b.s, .sl (b.l.map Lf.encI)]
theorem big_of {n : Nat} {cs : List Cell} (h : TyL TY (n + 3) 38 cs) : ∃ b : BV, cs = encBV b ∧ b.l.length ≤ 9223372036854775807 := by
  obtain ⟨a1, b1, rfl, t1, a2, b2, rfl, t2, rfl⟩ : ∃ a1 b1, cs = a1 ++ b1 ∧ TyL TY (n + 2) 3 a1 ∧ ∃ a2 b2, b1 = a2 ++ b2 ∧ TyL TY (n + 2) 36 a2 ∧ b2 = [] := h
  obtain ⟨s, rfl, _⟩ : ∃ i, a1 = [.int .i64 i] ∧ (Lit.int .i64 i).wf = true := t1
  obtain ⟨rows, rfl, hl, h3⟩ : ∃ rows, a2 = [Cell.sl rows] ∧ rows.length ≤ maxLen ∧ ∀ r ∈ rows, TyL TY (n + 1) 3 r := t2
  obtain ⟨l, rfl, _⟩ := rows_map (f := Lf.encI) (p := fun _ => True) fun r hr => int_of1 (h3 r hr)
  exact ⟨⟨s, l⟩, rfl, by simp only [List.length_map] at hl; unfold maxLen at hl; omega⟩
theorem fq_of {n : Nat} {cs : List Cell} (h : TyL TY (n + 4) 40 cs) : ∃ f : Fq, cs = encF f ∧ FqOk f := by
  obtain ⟨a1, b1, rfl, t1, a2, b2, rfl, t2, rfl⟩ : ∃ a1 b1, cs = a1 ++ b1 ∧ TyL TY (n + 3) 38 a1 ∧ ∃ a2 b2, b1 = a2 ++ b2 ∧ TyL TY (n + 3) 38 a2 ∧ b2 = [] := h
  obtain ⟨x, rfl, hx⟩ := big_of t1
  obtain ⟨y, rfl, hy⟩ := big_of t2
  exact ⟨⟨x.s, x.l, y.s, y.l⟩, rfl, hx, hy⟩
theorem fqs_of {n : Nat} {cs : List Cell} (h : TyL TY (n + 5) 27 cs) : ∃ l : List Fq, cs = [.sl (l.map encF)] ∧ l.length ≤ 9223372036854775807 ∧ ∀ q ∈ l, FqOk q := by
  obtain ⟨rows, rfl, hl, h3⟩ : ∃ rows, cs = [Cell.sl rows] ∧ rows.length ≤ maxLen ∧ ∀ r ∈ rows, TyL TY (n + 4) 40 r := h
  obtain ⟨l, rfl, hq⟩ := rows_map (f := encF) (p := fun f => FqOk f) fun r hr => fq_of (n := n) (h3 r hr)
  exact ⟨l, rfl, by simp only [List.length_map] at hl; unfold maxLen at hl; omega, hq⟩
theorem str_of {n : Nat} {cs : List Cell} (h : TyL TY (n + 1) 9 cs) : ∃ x : Str, cs = encS x ∧ True := by
  obtain ⟨s, rfl, _⟩ : ∃ s, cs = [.str s] ∧ s.length ≤ maxLen := h
  exact ⟨s, rfl, trivial⟩
theorem strs_of {n : Nat} {cs : List Cell} (h : TyL TY (n + 2) 26 cs) : ∃ l : List Str, cs = [.sl (l.map encS)] ∧ l.length ≤ 9223372036854775807 := by
  obtain ⟨rows, rfl, hl, h3⟩ : ∃ rows, cs = [Cell.sl rows] ∧ rows.length ≤ maxLen ∧ ∀ r ∈ rows, TyL TY (n + 1) 9 r := h
  obtain ⟨l, rfl, _⟩ := rows_map (f := encS) (p := fun _ => True) fun r hr => str_of (n := n) (h3 r hr)
  exact ⟨l, rfl, by simp only [List.length_map] at hl; unfold maxLen at hl; omega⟩
theorem env_in {cs : List Cell} (h : TyL TY 6 29 cs) : ∃ v : EnvV, cs = encEnv v ∧ v.Len := by
  obtain ⟨a1, b1, rfl, t1, a2, b2, rfl, t2, a3, b3, rfl, t3, a4, b4, rfl, t4, rfl⟩ : ∃ a1 b1, cs = a1 ++ b1 ∧ TyL TY 5 26 a1 ∧ ∃ a2 b2, b1 = a2 ++ b2 ∧ TyL TY 5 27 a2 ∧ ∃ a3 b3, b2 = a3 ++ b3 ∧ TyL TY 5 26 a3 ∧ ∃ a4 b4, b3 = a4 ++ b4 ∧ TyL TY 5 27 a4 ∧ b4 = [] := h
  obtain ⟨N, rfl, n1⟩ := strs_of (n := 3) t1
  obtain ⟨V, rfl, n2, o2⟩ := fqs_of (n := 0) t2
  obtain ⟨I, rfl, n3⟩ := strs_of (n := 3) t3
  obtain ⟨R, rfl, n4, o4⟩ := fqs_of (n := 0) t4
  exact ⟨⟨N, V, I, R⟩, rfl, ⟨n1, n2, n3, n4, o2, o4⟩⟩
end Go.Proofs.Ytjedkgogjehigaa
end
section
namespace Go.Proofs.Ytjedkgogjehigaa
open Lf Go Go.ChangeShapes Go.WideShapes Go.ChangeAt Go.RowKit
namespace OrderRow
theorem own : ownKnob Try.prog.godebug = none := by kernel_rfl
theorem laidOut : laidOutB Try.prog = true := by kernel_rfl
set_option maxRecDepth 100000 in
theorem lifted (os : Os) (started : os.Started) (H : Type) (enc : TypeId × Value → H) :
    ReturnsInHanded {} Try.checked os 5 .any (Rows.evalOrderSpec.pre6 enc Try.prog Try.f5 Rows.evalOrderRow.domain false) (Rows.evalOrderSpec.post enc Try.prog Try.f5 false true false false) := by
  refine returnsInHanded_of_change (C := Try.checked) own started (by kernel_rfl) Try.func5
    (ChangeSpec.witness6 (enc := enc) (C := Try.checked) false ⟨#[], #[.slice none 0 0, .agg #[.int .i64 0, .int .i64 0, .int .i64 0, .string ⟨#[]⟩, .slice none 0 0], .agg #[.int .i64 0, .int .i64 0, .int .i64 0, .string ⟨#[]⟩, .slice none 0 0], .agg #[.slice none 0 0, .slice none 0 0, .slice none 0 0, .slice none 0 0]], []⟩ 8 (by kernel_rfl) (by kernel_rfl) (by kernel_rfl) (by kernel_rfl)) ?_
  intro W base args ds gs before hval0 hW hcnd _
  have hval : ∀ (j : Nat) t v, Try.f5.params[j]? = some t → args[j]? = some v → Value.okWide Try.prog W .any base t v := hval0
  have hW' := hW
  obtain ⟨p, q, hA0, hV, rfl, hfz, hnd⟩ := hW
  have hA : DataW.TrodAll enc Try.prog W 0 (fun _ => true) true Try.f5.params.toList args.toList ds p := hA0
  rw [Try.params5] at hA hval
  obtain ⟨v0, vs0, d0, ds0, p0, q0, hargs, rfl, rfl, h0, r0⟩ := trodAll_cons hA
  obtain ⟨v1, vs1, d1, ds1, p1, q1, rfl, rfl, rfl, h1, r1⟩ := trodAll_cons r0
  obtain ⟨v2, vs2, d2, ds2, p2, q2, rfl, rfl, rfl, h2, r2⟩ := trodAll_cons r1
  obtain ⟨v3, vs3, d3, ds3, p3, q3, rfl, rfl, rfl, h3, r3⟩ := trodAll_cons r2
  obtain ⟨rfl, rfl, rfl⟩ := trodAll_nil r3
  obtain rfl : args = #[v0, v1, v2, v3] := by cases args; simp_all
  obtain ⟨rfl, rfl⟩ := trodVars_none hV
  have k0 := h0
  have lt0 : ∀ x ∈ p0, x.block < W.heap.size := by obtain ⟨m, hm⟩ := k0; exact DataW.trod_lt m _ _ _ hm
  obtain ⟨n0, c0, rel0, ty0⟩ := readR_slice TYok (S := [22,56,25,23,9,3]) (by kernel_rfl) (by simp) Try.underlying22 (hval 0 22 v0 rfl rfl) h0
  obtain ⟨a0, rfl, w0⟩ := lets_in _ ty0
  have k1 := h1
  have lt1 : ∀ x ∈ p1, x.block < W.heap.size := by obtain ⟨m, hm⟩ := k1; exact DataW.trod_lt m _ _ _ hm
  obtain ⟨n1, c1, rel1, ty1⟩ := readR_struct TYok (S := [25,23,9,3]) (by kernel_rfl) (by simp) Try.underlying25 (hval 1 25 v1 rfl rfl) h1
  obtain ⟨a1, rfl, w1⟩ := exp_of _ ty1
  have k2 := h2
  have lt2 : ∀ x ∈ p2, x.block < W.heap.size := by obtain ⟨m, hm⟩ := k2; exact DataW.trod_lt m _ _ _ hm
  obtain ⟨n2, c2, rel2, ty2⟩ := readR_struct TYok (S := [25,23,9,3]) (by kernel_rfl) (by simp) Try.underlying25 (hval 2 25 v2 rfl rfl) h2
  obtain ⟨a2, rfl, w2⟩ := exp_of _ ty2
  have k3 := h3
  have lt3 : ∀ x ∈ p3, x.block < W.heap.size := by obtain ⟨m, hm⟩ := k3; exact DataW.trod_lt m _ _ _ hm
  obtain ⟨c3, rel3, ty3⟩ := read_struct TYok 6 Try.underlying29 (by kernel_rfl) (hval 3 29 v3 rfl rfl) h3
  obtain ⟨a3, rfl, w3⟩ := env_in ty3
  clear hA0 hval0
  have hc := (order_ok w0 a1 a2 w1 w2 a3 w3).calls (allΦ W) W #[v0, v1, v2, v3] (fits_all W)
    (ArgsRel.of (ArgsL.cons rel0 (ArgsL.cons rel1 (ArgsL.cons rel2 (ArgsL.cons rel3 ArgsL.nil)))))
  refine hc.mono fun e W' ⟨v, Φ', he, hv, _, _, _, bel⟩ => ?_
  subst he
  obtain rfl : v = .bool true := AVRel.bool hv
  exact ⟨_, rfl, _, _, _, [], _, [], hW', trodAll_mk1 (shut_bool Try.underlying4 _), (trodAll_cons_mk (Below.trod laidOut (by kernel_rfl) (of_decide_eq_true (by kernel_rfl)) k0 bel lt0) (trodAll_cons_mk (Below.trod laidOut (by kernel_rfl) (of_decide_eq_true (by kernel_rfl)) k1 bel lt1) (trodAll_cons_mk (Below.trod laidOut (by kernel_rfl) (of_decide_eq_true (by kernel_rfl)) k2 bel lt2) (trodAll_cons_mk (Below.trod laidOut (by kernel_rfl) (of_decide_eq_true (by kernel_rfl)) k3 bel lt3) trodAll_mk0)))), rfl, bel.frame _, fun h => by cases h⟩
theorem over : Rows.evalOrderRow.holds Try.pinned (OpenSpec.ofChange Rows.evalOrderSpec) :=
  OpenClaim.holds_of_wide 5 Try.f5 rfl rfl rfl rfl rfl rfl rfl ⟨rfl, rfl, rfl, rfl, rfl⟩ rfl rfl rfl rfl rfl (by kernel_rfl) Try.func5 (by kernel_rfl)
    (of_decide_eq_true (by kernel_rfl)) (by unfold Func.isWrapper; first | (rw [if_pos (by decide +kernel)]; kernel_rfl) | (rw [if_neg (by decide +kernel)]; exact ⟨rfl, rfl⟩))
    (fun os started H enc _ => lifted os started H enc)
end OrderRow
theorem evalOrder_proved : Rows.EvalOrderSaid := OrderRow.over
end Go.Proofs.Ytjedkgogjehigaa
end
