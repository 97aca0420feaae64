/-
  Part 12 of what the proof rests on.
-/
import Derived.Test.YtjedkgogjehigaaLS11
import Derived.Test.YtjedkgogjehigaaLS07
import Derived.Test.YtjedkgogjehigaaLS08
import Derived.Test.YtjedkgogjehigaaLS04
section
set_option linter.unusedVariables false
set_option linter.unusedSimpArgs false
set_option maxHeartbeats 8000000
set_option linter.unusedSectionVars false
namespace Go.Proofs.Ytjedkgogjehigaa
open Lf Go
attribute [local irreducible] PureOp EffOp Ev RG W Then InBlock Lf.Fin nth App InitE Pick SubE EvL EvD EvP EvR ResL Lf.Lex SubR SubBR EvC FinO FinM ResM ResD FinS val pw digs trimL
section
def fewF (lets : List Let) (e : Exp) (v : EnvV) : Bool := (fewL lets && fewE e 31) && fewV v
theorem few_ok {lets : List Let} (hl : LIn lets) (e : Exp) (he : OkE e) (v : EnvV) (hv : v.Len) : ACalls Try.prog 7 [xV lets, aE e, vV v] (.pv (cB (fewF lets e v))) := by
  have c1 := fewL_ok hl
  have c2 := fewE_ok e he 31 (by omega) (by omega)
  have c3 := fewV_ok v hv
  unfold fewF
  generalize fewL lets = b1 at *
  generalize fewE e 31 = b2 at *
  generalize fewV v = b3 at *
  obtain ⟨op, k, u, s, l⟩ := e
  obtain ⟨N, V, I, R⟩ := v
  refine ACalls.of_W (qs := [cB ((b1 && b2) && b3)]) [6] 18 Try.func7 (by kernel_rfl) rfl rfl rfl fun G => ?_
  refine W.initA (hw := ?_)
  repeat' (first | ((first | apply U_ | (apply Ug_; exact rfl; exact rfl) | (apply Ugq_; exact rfl; exact rfl)); (first | exact QX.B TYok | exact QCd (c1) | exact QCd (c2) | exact QCd (c3)); exact rfl) | refine SX.Box TYok (h := ?_) | refine SC ?_ | (apply RG.gT; exact rfl; exact rfl; (first | assumption | decide)) | (apply RG.gF; exact rfl; exact rfl; (first | assumption | decide | (rw [ne_eq, Bool.not_eq_true]; assumption) | (rw [ne_eq, Bool.not_eq_false]; assumption)); exact rfl) | (refine W.condA (ht := fun hb => ?_) (hf := fun hb => ?_) <;> (try simp at hb) <;> (try (exfalso; omega))))
  all_goals exact Fin.ret ResL.auto
theorem env_ok (v : EnvV) : ACalls Try.prog 9 [vV v] (.pv (vV v)) := by
  obtain ⟨N, V, I, R⟩ := v
  refine ACalls.of_M TYok (qs := [.agg [.sl (N.map encS), .sl (V.map encF), .sl (I.map encS), .sl (R.map encF)]]) [.cell 2 44] 12 Try.func9 (by kernel_rfl) rfl rfl rfl fun G => ?_
  refine W.initA (hw := ?_)
  repeat' (first | ((first | apply U_); (first | exact QX.B TYok | exact QX.Build TYok); exact rfl) | refine SX.Alloc TYok (h := ?_) | refine SX.Store TYok (h := ?_) | refine SX.Box TYok (h := ?_) | refine SC ?_ | (refine W.condA (ht := fun hb => ?_) (hf := fun hb => ?_) <;> (try simp at hb) <;> (try (exfalso; omega))))
  all_goals exact FinM.ret ResM.auto
def nodeE (op : Int) (a b : Exp) : Exp := .mk op 0 0 [] [a, b]
theorem node_ok (op : Int) (a b : Exp) : ACalls Try.prog 15 [cI op, aE a, aE b] (.pv (aE (nodeE op a b))) := by
  rw [show aE (nodeE op a b) = .agg [.int .i64 op, .int .i64 0, .int .i64 0, .str [], .sl [encX a, encX b]] from aE_mk ..]
  refine ACalls.of_M TYok (qs := [.agg [.int .i64 op, .int .i64 0, .int .i64 0, .str [], .sl [encX a, encX b]]]) [.cell 6 25] 12 Try.func15 (by kernel_rfl) rfl rfl rfl fun G => ?_
  refine W.initA (hw := ?_)
  repeat' (first | ((first | apply U_); (first | (apply Q_litD TYok; apply EvR.cons Ev.auto; (repeat (first | exact EvR.nil | apply EvR.cons Ev.auto)); exact rfl; exact rfl; exact rfl; exact rfl; exact rfl; exact rfl) | exact QX.B TYok | exact QX.Build TYok); exact rfl) | refine SX.Alloc TYok (h := ?_) | refine SX.Store TYok (h := ?_) | refine SX.Lit TYok (h := ?_) | refine SX.Box TYok (h := ?_) | refine SC ?_ | (refine W.condA (ht := fun hb => ?_) (hf := fun hb => ?_) <;> (try simp at hb) <;> (try (exfalso; omega))))
  all_goals exact FinM.ret ResM.auto
theorem okNode {op : Int} {a b : Exp} (ha : OkE a) (hb : OkE b) : OkE (nodeE op a b) := .mk (by decide) (by simp) (fun x hx => by
  rcases List.mem_cons.1 hx with rfl | hx
  · exact ha
  · rw [List.mem_singleton.1 hx]; exact hb)
attribute [local irreducible] sgn mag gcdZ quoZ remZ fullZ fullE
theorem of_ok (n m : Int) (h : i64B n) (hm : i64B m) (h0 : m ≠ 0) : ACalls Try.prog 16 [cI n, cI m] (.pv (zF (Rat.divInt n m))) := by
  have n1 := qof_ok n m h hm h0
  generalize Rat.divInt n m = r at *
  refine ACalls.of_M TYok (qs := [zF r]) [.cell 4 40] 14 Try.func16 (by kernel_rfl) rfl rfl rfl fun G => ?_
  refine W.initA (hw := ?_)
  repeat' (first | ((first | apply U_); (first | exact QX.B TYok | exact QX.Ext TYok | exact QCd (n1)); exact rfl) | refine SX.Alloc TYok (h := ?_) | refine SX.Store TYok (h := ?_) | refine SC ?_ | (refine W.condA (ht := fun hb => ?_) (hf := fun hb => ?_) <;> (try simp at hb) <;> (try (exfalso; omega))))
  all_goals exact FinM.ret ResM.auto
theorem same0_ok : ACalls Try.prog 12 [zF0, zF0] (.pv (cB true)) := by
  have s1 := sameBig_ok 0 0 [] [] (by simp) (by simp)
  rw [show (decide ((0 : Int) = 0) && decide (([] : List Int) = [])) = true by decide] at s1
  refine ACalls.of_W (qs := [cB true]) [4] 17 Try.func12 (by kernel_rfl) rfl rfl rfl fun G => ?_
  refine W.initA (hw := ?_)
  repeat' (first | ((first | apply U_ | (apply Ug_; exact rfl; exact rfl) | (apply Ugq_; exact rfl; exact rfl)); (first | exact QX.B TYok | exact QCd (s1)); exact rfl) | refine SX.Box TYok (h := ?_) | refine SC ?_ | (apply RG.gT; exact rfl; exact rfl; (first | assumption | decide)) | (apply RG.gF; exact rfl; exact rfl; (first | assumption | decide | (rw [ne_eq, Bool.not_eq_true]; assumption) | (rw [ne_eq, Bool.not_eq_false]; assumption)); exact rfl) | (refine W.condA (ht := fun hb => ?_) (hf := fun hb => ?_) <;> (try simp at hb) <;> (try (exfalso; omega))))
  all_goals exact Fin.ret ResL.auto
theorem sameV_ok (R : Rs) (h : R.fit) : ACalls Try.prog 12 [R.v, R.v] (.pv (cB true)) := by
  cases R with
  | ok r =>
    have := same_ok r r h h
    rwa [decide_eq_true rfl] at this
  | err e => exact same0_ok
def rN : Rat := Rat.divInt 300 1
def rM : Rat := Rat.divInt 100 1
def rA : Rat := Rat.divInt 1 20
def offQ : EnvQ := ⟨[[100, 101, 98, 116], [99, 97, 115, 104]], [rN, rM], [[97]], [rA]⟩
theorem ix {n : Int} (h : -1000 ≤ n ∧ n ≤ 1000) : i64B n := by unfold i64B; omega
theorem okC {n m : Int} (h : -1000 ≤ n ∧ n ≤ 1000) (hm : -1000 ≤ m ∧ m ≤ 1000) (h0 : m ≠ 0) : okF (Rat.divInt n m) := okF_of (i64_ok (ix h)) (i64_ok (ix hm)) h0
theorem offQ_ok : offQ.Ok := ⟨fun r hr => by
    rcases List.mem_cons.1 hr with rfl | hr
    · exact okC (by omega) (by omega) (by omega)
    · rw [List.mem_singleton.1 hr]; exact okC (by omega) (by omega) (by omega), fun r hr => by
    rw [List.mem_singleton.1 hr]; exact okC (by omega) (by omega) (by omega), rfl, rfl, by decide, by decide⟩
theorem office_ok : ACalls Try.prog 21 [] (.pv (vV offQ.V)) := by
  rw [vV_q]
  have o1 := of_ok 300 1 (ix (by omega)) (ix (by omega)) (by omega)
  have o2 := of_ok 100 1 (ix (by omega)) (ix (by omega)) (by omega)
  have o3 := of_ok 1 20 (ix (by omega)) (ix (by omega)) (by omega)
  show ACalls Try.prog 21 [] (.pv (.agg [.sl [encS [100, 101, 98, 116], encS [99, 97, 115, 104]], .sl [encQ rN, encQ rM], .sl [encS [97]], .sl [encQ rA]]))
  change ACalls Try.prog 16 _ (.pv (zF rN)) at o1
  change ACalls Try.prog 16 _ (.pv (zF rM)) at o2
  change ACalls Try.prog 16 _ (.pv (zF rA)) at o3
  generalize rN = r1 at *
  generalize rM = r2 at *
  generalize rA = r3 at *
  refine ACalls.of_M TYok (qs := [.agg [.sl [encS [100, 101, 98, 116], encS [99, 97, 115, 104]], .sl [encQ r1, encQ r2], .sl [encS [97]], .sl [encQ r3]]]) [.cell 0 29] 9 Try.func21 (by kernel_rfl) rfl rfl rfl fun G => ?_
  refine W.initA (hw := ?_)
  repeat' (first | ((first | apply U_); (first | (apply Q_litD TYok; apply EvR.cons Ev.auto; (repeat (first | exact EvR.nil | apply EvR.cons Ev.auto)); exact rfl; exact rfl; exact rfl; exact rfl; exact rfl; exact rfl) | exact QX.B TYok | exact QX.Build TYok | exact QCd (o1) | exact QCd (o2) | exact QCd (o3)); exact rfl) | refine SX.Alloc TYok (h := ?_) | refine SX.Store TYok (h := ?_) | refine SX.Lit TYok (h := ?_) | refine SC ?_ | (refine W.condA (ht := fun hb => ?_) (hf := fun hb => ?_) <;> (try simp at hb) <;> (try (exfalso; omega))))
  all_goals exact FinM.ret ResM.auto
end
end Go.Proofs.Ytjedkgogjehigaa
end
section
set_option linter.unusedVariables false
set_option linter.unusedSimpArgs false
set_option maxHeartbeats 8000000
set_option linter.unusedSectionVars false
namespace Go.Proofs.Ytjedkgogjehigaa
open Lf Go
attribute [local irreducible] PureOp EffOp Ev RG W Then InBlock Lf.Fin nth App InitE Pick SubE EvL EvD EvP EvR ResL Lf.Lex SubR SubBR EvC FinO FinM ResM ResD FinS val pw digs trimL
section
instance (x : Int) : Decidable (okZ x) := by unfold okZ; infer_instance
instance (a b : Rat) : Decidable (divOk a b) := by unfold divOk; infer_instance
instance (a b c d : Int) : Decidable (sumOk a b c d) := by unfold sumOk; infer_instance
instance (a b : Rat) : Decidable (addOk a b) := by unfold addOk; infer_instance
instance : DecidableEq Rs := fun a b => match a, b with
  | .ok x, .ok y => if h : x = y then isTrue (by rw [h]) else isFalse (fun e => h (by injection e))
  | .err x, .err y => if h : x = y then isTrue (by rw [h]) else isFalse (fun e => h (by injection e))
  | .ok _, .err _ => isFalse (fun e => by injection e)
  | .err _, .ok _ => isFalse (fun e => by injection e)
theorem bin4 (a b : Rat) : binF 4 a b = addR a b := by unfold binF; rw [if_pos rfl]
theorem bin7 (a b : Rat) : binF 7 a b = divR a b := by unfold binF; rw [if_neg (by omega), if_neg (by omega), if_neg (by omega), if_pos rfl]
theorem bin9 (a b : Rat) : binF 9 a b = .ok (if cmpR a b ≤ 0 then b else a) := by unfold binF; rw [if_neg (by omega), if_neg (by omega), if_neg (by omega), if_neg (by omega), if_neg (by omega), if_pos rfl]
theorem bin10 (a b : Rat) : binF 10 a b = .ok (one01 (decide (cmpR a b < 0))) := by unfold binF; rw [if_neg (by omega), if_neg (by omega), if_neg (by omega), if_neg (by omega), if_neg (by omega), if_neg (by omega), if_pos rfl]
theorem divR_yes {a b : Rat} (h0 : b.num ≠ 0) (h : divOk a b) : divR a b = .ok (a / b) := by unfold divR; rw [if_neg h0, if_pos h]
theorem divR_zero {a b : Rat} (h0 : b.num = 0) : divR a b = .err 15 := by unfold divR; rw [if_pos h0]
theorem addR_yes {a b : Rat} (h : addOk a b) : addR a b = .ok (a + b) := by unfold addR; rw [if_pos h]
theorem nth0 {α : Type} [Inhabited α] (x : α) (l : List α) : nth (x :: l) 0 = x := by rw [nth]; rfl
theorem nth1 {α : Type} [Inhabited α] (x y : α) (l : List α) : nth (x :: y :: l) 1 = y := by rw [nth]; rfl
theorem nth2 {α : Type} [Inhabited α] (x y z : α) (l : List α) : nth (x :: y :: z :: l) 2 = z := by rw [nth]; rfl
variable {lets : List Let} {en : EnvQ} {vs : List Rs}
theorem ev_num (n u : Int) (s : Str) (l : List Exp) : evF lets en vs (.mk 0 n u s l) = .ok (if u = 2 then Rat.divInt n 1000 else Rat.divInt n 1) := by rw [evF_mk, stepF, if_pos rfl]
theorem ev_name (n u : Int) (s : Str) (l : List Exp) : evF lets en vs (.mk 1 n u s l) = lookN lets vs s := by rw [evF_mk, stepF, if_neg (by omega), if_pos rfl]
theorem ev_fact (n u : Int) (s : Str) (l : List Exp) : evF lets en vs (.mk 2 n u s l) = lookF en.names en.vals s := by rw [evF_mk, stepF, if_neg (by omega), if_neg (by omega), if_pos rfl]
theorem ev_rate (n u : Int) (s : Str) (l : List Exp) : evF lets en vs (.mk 3 n u s l) = lookF en.iss en.rates s := by rw [evF_mk, stepF, if_neg (by omega), if_neg (by omega), if_neg (by omega), if_pos rfl]
theorem ev_two {op : Int} {a b : Exp} {p q : Rat} (h : 4 ≤ op ∧ op ≤ 11) (ha : evF lets en vs a = .ok p) (hb : evF lets en vs b = .ok q) : evF lets en vs (nodeE op a b) = binF op p q := by
  rw [nodeE, evF_mk, stepF, if_neg (by omega), if_neg (by omega), if_neg (by omega), if_neg (by omega), List.map_cons, List.map_cons, List.map_nil, nth0, ha]
  dsimp only
  rw [if_neg (by omega), if_neg (by omega), if_neg (by omega), nth1, hb]
theorem ev_if {c a b : Exp} : evF lets en vs (.mk 15 0 0 [] [c, a, b]) = match evF lets en vs c with | .err e => .err e | .ok w => if sgn w.num = 0 then evF lets en vs b else evF lets en vs a := by
  rw [evF_mk, stepF, if_neg (by omega), if_neg (by omega), if_neg (by omega), if_neg (by omega), List.map_cons, List.map_cons, List.map_cons, List.map_nil, nth0]
  cases evF lets en vs c with
  | err e => rfl
  | ok w => dsimp only; rw [if_neg (by omega), if_pos rfl, nth1, nth2]
theorem ev_and {c a : Exp} : evF lets en vs (nodeE 13 c a) = match evF lets en vs c with | .err e => .err e | .ok w => if sgn w.num = 0 then .ok (one01 false) else match evF lets en vs a with | .err e => .err e | .ok b => binF 13 w b := by
  rw [nodeE, evF_mk, stepF, if_neg (by omega), if_neg (by omega), if_neg (by omega), if_neg (by omega), List.map_cons, List.map_cons, List.map_nil, nth0]
  cases evF lets en vs c with
  | err e => rfl
  | ok w =>
    dsimp only
    rw [if_neg (by omega), if_neg (by omega)]
    by_cases hz : sgn w.num = 0
    · rw [if_pos (.inl ⟨rfl, hz⟩), if_pos hz, decide_eq_true hz]; rfl
    · rw [if_neg (by omega), if_neg hz, nth1]
      cases evF lets en vs a <;> rfl
theorem ev_or {c a : Exp} : evF lets en vs (nodeE 14 c a) = match evF lets en vs c with | .err e => .err e | .ok w => if sgn w.num = 0 then (match evF lets en vs a with | .err e => .err e | .ok b => binF 14 w b) else .ok (one01 true) := by
  rw [nodeE, evF_mk, stepF, if_neg (by omega), if_neg (by omega), if_neg (by omega), if_neg (by omega), List.map_cons, List.map_cons, List.map_nil, nth0]
  cases evF lets en vs c with
  | err e => rfl
  | ok w =>
    dsimp only
    rw [if_neg (by omega), if_neg (by omega)]
    by_cases hz : sgn w.num = 0
    · rw [if_neg (by omega), if_pos hz, nth1]
      cases evF lets en vs a <;> rfl
    · rw [if_pos (.inr ⟨rfl, hz⟩), if_neg hz, decide_eq_false hz]; rfl
abbrev kLever : Str := [108, 101, 118, 101, 114]
abbrev kDebt : Str := [100, 101, 98, 116]
abbrev kCash : Str := [99, 97, 115, 104]
abbrev fDebt : Exp := .mk 2 0 0 kDebt []
abbrev fCash : Exp := .mk 2 0 0 kCash []
def lev : Exp := nodeE 7 fDebt fCash
def lets0 : List Let := [⟨kLever, lev⟩]
abbrev nLever : Exp := .mk 1 0 0 kLever []
def x1 : Exp := nodeE 10 nLever (.mk 0 4 0 [] [])
def x2 : Exp := nodeE 4 (.mk 3 0 0 [97] []) (.mk 0 25 2 [] [])
def x3 : Exp := .mk 1 0 0 kCash []
def zeroE : Exp := nodeE 7 (.mk 0 1 0 [] []) (.mk 0 0 0 [] [])
def max2 : Exp := nodeE 9 nLever (.mk 0 2 0 [] [])
def x4 : Exp := .mk 15 0 0 [] [.mk 0 0 4 [] [], zeroE, max2]
theorem okLeaf {op n u : Int} {s : Str} (h : s.length ≤ 9223372036854775807) : OkE (.mk op n u s []) := .mk h (by simp) (fun x hx => by cases hx)
theorem ok_lev : OkE lev := okNode (okLeaf (by decide)) (okLeaf (by decide))
theorem ok_x1 : OkE x1 := okNode (okLeaf (by decide)) (okLeaf (by decide))
theorem ok_x2 : OkE x2 := okNode (okLeaf (by decide)) (okLeaf (by decide))
theorem ok_x3 : OkE x3 := okLeaf (by decide)
theorem ok_zero : OkE zeroE := okNode (okLeaf (by decide)) (okLeaf (by decide))
theorem ok_x4 : OkE x4 := .mk (by decide) (by decide) (fun x hx => by
  rcases List.mem_cons.1 hx with rfl | hx
  · exact okLeaf (by decide)
  rcases List.mem_cons.1 hx with rfl | hx
  · exact ok_zero
  rw [List.mem_singleton.1 hx]
  exact okNode (okLeaf (by decide)) (okLeaf (by decide)))
theorem stats : statF lev = true ∧ statF x1 = true ∧ statF x2 = true ∧ statF x3 = true ∧ statF zeroE = true ∧ statF x4 = true := by decide +kernel
theorem lets0_ok : LetsOk lets0 := ⟨by decide, fun y hy => by rw [List.mem_singleton.1 hy]; exact ⟨stats.1, ok_lev⟩⟩
theorem lev_val : evF lets0 offQ [] lev = .ok (Rat.divInt 3 1) := by
  have e1 : evF lets0 offQ [] fDebt = .ok rN := by rw [ev_fact]; decide +kernel
  have e2 : evF lets0 offQ [] fCash = .ok rM := by rw [ev_fact]; decide +kernel
  rw [lev, ev_two (by omega) e1 e2, bin7]
  rw [divR_yes (by decide +kernel) (by decide +kernel)]
  decide +kernel
theorem tab1 : tabF lets0 offQ 1 = [.ok (Rat.divInt 3 1)] := by
  rw [tabF, tabF, List.nil_append, show nth lets0 0 = ⟨kLever, lev⟩ from nth0 _ _, lev_val]
theorem name_val : evF lets0 offQ (tabF lets0 offQ 1) nLever = .ok (Rat.divInt 3 1) := by
  rw [ev_name, tab1]; decide +kernel
theorem val1 : valF lets0 offQ lets0.length x1 = .ok (Rat.divInt 1 1) := by
  rw [show lets0.length = 1 from rfl, valF, x1, ev_two (by omega) name_val (ev_num ..), bin10]
  decide +kernel
theorem val2 : valF lets0 offQ lets0.length x2 = .ok (Rat.divInt 3 40) := by
  have e1 : evF lets0 offQ (tabF lets0 offQ 1) (.mk 3 0 0 [97] []) = .ok rA := by rw [ev_rate]; decide +kernel
  rw [show lets0.length = 1 from rfl, valF, x2, ev_two (by omega) e1 (ev_num ..), bin4]
  rw [addR_yes (by decide +kernel)]
  decide +kernel
theorem val3 : valF lets0 offQ lets0.length x3 = .err 14 := by
  rw [show lets0.length = 1 from rfl, valF, x3, ev_name, tab1]
  decide +kernel
theorem val5 : valF lets0 offQ lets0.length zeroE = .err 15 := by
  rw [show lets0.length = 1 from rfl, valF, zeroE, ev_two (by omega) (ev_num ..) (ev_num ..), bin7]
  exact divR_zero (by decide +kernel)
theorem val4 : valF lets0 offQ lets0.length x4 = .ok (Rat.divInt 3 1) := by
  rw [show lets0.length = 1 from rfl, valF, x4, ev_if, ev_num]
  show (if _ then _ else _) = _
  rw [if_pos (by decide +kernel), max2, ev_two (by omega) name_val (ev_num ..), bin9]
  decide +kernel
end
end Go.Proofs.Ytjedkgogjehigaa
end
section
set_option linter.unusedVariables false
set_option linter.unusedSimpArgs false
set_option maxHeartbeats 8000000
set_option linter.unusedSectionVars false
namespace Go.Proofs.Ytjedkgogjehigaa
open Lf Go
attribute [local irreducible] PureOp EffOp Ev RG W Then InBlock Lf.Fin nth App InitE Pick SubE EvL EvD EvP EvR ResL Lf.Lex SubR SubBR EvC FinO FinM ResM ResD FinS val pw digs trimL
section
attribute [local irreducible] sgn mag gcdZ quoZ remZ fullZ fullE
theorem leaf_sub {op n u : Int} {s : Str} : PSub (.agg [.int .i64 op, .int .i64 n, .int .i64 u, .str s, .slnil]) (.agg [.int .i64 op, .int .i64 n, .int .i64 u, .str s, .sl []]) := ⟨.refl _, .refl _, .refl _, .refl _, .nil, trivial⟩
theorem Q_leaf {P : Program} {G : Ghost} {A : St} {o : Oper} {p : Prop} {op n u : Int} {s : Str} (h : PureOp P G A o p (.pv (.agg [.int .i64 op, .int .i64 n, .int .i64 u, .str s, .slnil]))) : PureOp P G A o p (.pv (.agg [.int .i64 op, .int .i64 n, .int .i64 u, .str s, .sl []])) :=
  PureOp.conv h fun Φ β a w hs Φ' v h => by
    have h' : PRel Φ' v (.agg [.int .i64 op, .int .i64 n, .int .i64 u, .str s, .slnil]) := h
    exact h'.sub leaf_sub
theorem vcall {e : Exp} {R : Rs} (hst : statF e = true) (he : OkE e) (h : valF lets0 offQ lets0.length e = R) : ACalls Try.prog 8 [xV lets0, aE e, vV offQ.V] (resP R) := by
  rw [← h]
  exact value_yes lets0_ok offQ_ok hst he
theorem aE_leaf (op n u : Int) (s : Str) : aE (.mk op n u s []) = .agg [.int .i64 op, .int .i64 n, .int .i64 u, .str s, .sl []] := aE_mk ..
theorem small_ok : ACalls Try.prog 6 [] (.pv (cB true)) := by
  obtain ⟨t1, t2, t3, t4, t5, t6⟩ := stats
  have v1 := vcall t2 ok_x1 val1
  have v2 := vcall t3 ok_x2 val2
  have v3 := vcall t4 ok_x3 val3
  have v4 := vcall t6 ok_x4 val4
  have v5 := vcall t5 ok_zero val5
  have n1 : ACalls Try.prog 15 [cI 7, aE fDebt, aE fCash] (.pv (aE lev)) := node_ok 7 fDebt fCash
  have n2 : ACalls Try.prog 15 [cI 10, aE nLever, aE (.mk 0 4 0 [] [])] (.pv (aE x1)) := node_ok 10 _ _
  have n3 : ACalls Try.prog 15 [cI 4, aE (.mk 3 0 0 [97] []), aE (.mk 0 25 2 [] [])] (.pv (aE x2)) := node_ok 4 _ _
  have n4 : ACalls Try.prog 15 [cI 7, aE (.mk 0 1 0 [] []), aE (.mk 0 0 0 [] [])] (.pv (aE zeroE)) := node_ok 7 _ _
  have n5 : ACalls Try.prog 15 [cI 9, aE nLever, aE (.mk 0 2 0 [] [])] (.pv (aE max2)) := node_ok 9 _ _
  have o := office_ok
  have en := env_ok offQ.V
  have f1 := of_ok 1 1 (ix (by omega)) (ix (by omega)) (by omega)
  have f2 := of_ok 3 40 (ix (by omega)) (ix (by omega)) (by omega)
  have f3 := of_ok 3 1 (ix (by omega)) (ix (by omega)) (by omega)
  have q1 := sameV_ok (.ok (Rat.divInt 1 1)) (okC (by omega) (by omega) (by omega))
  have q2 := sameV_ok (.ok (Rat.divInt 3 40)) (okC (by omega) (by omega) (by omega))
  have q3 := sameV_ok (.ok (Rat.divInt 3 1)) (okC (by omega) (by omega) (by omega))
  replace q1 : ACalls Try.prog 12 [zF (Rat.divInt 1 1), zF (Rat.divInt 1 1)] (.pv (cB true)) := q1
  replace q2 : ACalls Try.prog 12 [zF (Rat.divInt 3 40), zF (Rat.divInt 3 40)] (.pv (cB true)) := q2
  replace q3 : ACalls Try.prog 12 [zF (Rat.divInt 3 1), zF (Rat.divInt 3 1)] (.pv (cB true)) := q3
  replace v1 : ACalls Try.prog 8 _ (.tup [zF (Rat.divInt 1 1), cI 0]) := v1
  replace v2 : ACalls Try.prog 8 _ (.tup [zF (Rat.divInt 3 40), cI 0]) := v2
  replace v3 : ACalls Try.prog 8 _ (.tup [zF0, cI 14]) := v3
  replace v4 : ACalls Try.prog 8 _ (.tup [zF (Rat.divInt 3 1), cI 0]) := v4
  replace v5 : ACalls Try.prog 8 _ (.tup [zF0, cI 15]) := v5
  rw [show xV lets0 = .agg [.str [], .str [], .int .i64 0, .int .i64 0, .int .i64 0, .int .i64 0, .int .i64 0, .int .i64 0, .int .i64 0, .int .i64 0, .sl [.str kLever :: encX lev], .int .i64 0, .int .i64 0, .int .i64 0, .str [], .slnil, .int .i64 0, .slnil, .slnil, .int .i64 0, .slnil, .int .i64 0, .int .i64 0, .int .i64 0, .int .i64 0] from rfl] at v1 v2 v3 v4 v5
  rw [show aE x4 = .agg [.int .i64 15, .int .i64 0, .int .i64 0, .str [], .sl [encX (.mk 0 0 4 [] []), encX zeroE, encX max2]] from aE_mk ..] at v4
  rw [show aE x3 = .agg [.int .i64 1, .int .i64 0, .int .i64 0, .str kCash, .sl []] from aE_mk ..] at v3
  rw [aE_leaf, aE_leaf] at n1 n2 n3 n4 n5
  rw [show encX (.mk 0 0 4 [] []) = [.int .i64 0, .int .i64 0, .int .i64 4, .str [], .sl []] from rfl] at v4
  change ACalls Try.prog 15 _ (.pv (.agg (encX lev))) at n1
  change ACalls Try.prog 15 _ (.pv (.agg (encX x1))) at n2
  change ACalls Try.prog 15 _ (.pv (.agg (encX x2))) at n3
  change ACalls Try.prog 15 _ (.pv (.agg (encX zeroE))) at n4
  change ACalls Try.prog 15 _ (.pv (.agg (encX max2))) at n5
  generalize offQ.V = V at *
  obtain ⟨V1, V2, V3, V4⟩ := V
  generalize Rat.divInt 1 1 = r1 at *
  generalize Rat.divInt 3 40 = r2 at *
  generalize Rat.divInt 3 1 = r3 at *
  have sp : ∀ e : Exp, ∃ (a b c : Int) (s : Str) (l : List (List Cell)), encX e = [.int .i64 a, .int .i64 b, .int .i64 c, .str s, .sl l] := fun e => ⟨_, _, _, _, _, rfl⟩
  obtain ⟨l1, l2, l3, l4, l5, hlev⟩ := sp lev
  obtain ⟨a1, a2, a3, a4, a5, hx1⟩ := sp x1
  obtain ⟨b1, b2, b3, b4, b5, hx2⟩ := sp x2
  obtain ⟨c1, c2, c3, c4, c5, hz⟩ := sp zeroE
  obtain ⟨d1, d2, d3, d4, d5, hm⟩ := sp max2
  rw [show aE x1 = .agg (encX x1) from rfl, hx1] at v1
  rw [show aE x2 = .agg (encX x2) from rfl, hx2] at v2
  rw [show aE zeroE = .agg (encX zeroE) from rfl, hz] at v5
  rw [hlev] at n1 v1 v2 v3 v4 v5
  rw [hx1] at n2
  rw [hx2] at n3
  rw [hz] at n4 v4
  rw [hm] at n5 v4
  clear sp hlev hx1 hx2 hz hm t1 t2 t3 t4 t5 t6
  refine ACalls.of_W (qs := [cB true]) [0] 111 Try.func6 (by kernel_rfl) rfl rfl rfl fun G => ?_
  refine W.initA (hw := ?_)
  repeat' (first | ((first | apply U_ | (apply Ug_; exact rfl; exact rfl) | (apply Ugq_; exact rfl; exact rfl) | apply Lex.u | (apply Lex.g; exact rfl; exact rfl) | (apply Lex.gq; exact rfl; exact rfl)); (first | (apply Q_leaf; exact QX.Build TYok) | (apply Q_litD TYok; apply EvR.cons Ev.auto; (repeat (first | exact EvR.nil | apply EvR.cons Ev.auto)); exact rfl; exact rfl; exact rfl; exact rfl; exact rfl; exact rfl) | exact QX.B TYok | exact QX.Ext TYok | exact QX.Build TYok | exact QCd (n1) | exact QCd (n2) | exact QCd (n3) | exact QCd (n4) | exact QCd (n5) | exact QCd (o) | exact QCd (en) | exact QCd (v1) | exact QCd (v2) | exact QCd (v3) | exact QCd (v4) | exact QCd (v5) | exact QCd (f1) | exact QCd (f2) | exact QCd (f3) | exact QCd (q1) | exact QCd (q2) | exact QCd (q3)); exact rfl) | refine SX.Alloc TYok (h := ?_) | refine SX.Store TYok (h := ?_) | refine SX.Lit TYok (h := ?_) | refine SC ?_ | (apply S_isnil TYok; exact rfl; exact rfl; exact rfl; exact Ev.auto; intro bn hnil) | (apply RG.gT; exact rfl; exact rfl; (first | assumption | decide)) | (apply RG.gF; exact rfl; exact rfl; (first | assumption | decide | (rw [ne_eq, Bool.not_eq_true]; assumption) | (rw [ne_eq, Bool.not_eq_false]; assumption)); exact rfl) | apply LexS.nil | (apply LexS.f; exact rfl; (first | (apply FreshV.alloc TYok; exact rfl; exact rfl; exact rfl; exact rfl) | (apply FreshV.lit TYok; (repeat (first | exact EvR.nil | apply EvR.cons Ev.auto)); exact rfl; exact rfl; exact rfl; exact rfl; exact rfl; exact rfl; exact rfl; exact rfl; exact rfl) | (apply FreshV.box; exact Ev.auto; exact rfl; exact rfl; exact rfl)); exact rfl; exact rfl; exact rfl) | (apply LexS.s; exact rfl; exact rfl; (apply StoreV.mk TYok; exact Ev.auto; exact Ev.auto; exact rfl; exact rfl; exact rfl; exact rfl; exact rfl)) | ((first | apply LexS.u | (apply LexS.g; exact rfl; exact rfl) | (apply LexS.gq; exact rfl; exact rfl)); (repeat (first | (apply NB.cons; exact rfl) | exact NB.nil rfl)); (first | (apply Q_leaf; exact QX.Build TYok) | (apply Q_litD TYok; apply EvR.cons Ev.auto; (repeat (first | exact EvR.nil | apply EvR.cons Ev.auto)); exact rfl; exact rfl; exact rfl; exact rfl; exact rfl; exact rfl) | exact QX.B TYok | exact QX.Ext TYok | exact QX.Build TYok | exact QCd (n1) | exact QCd (n2) | exact QCd (n3) | exact QCd (n4) | exact QCd (n5) | exact QCd (o) | exact QCd (en) | exact QCd (v1) | exact QCd (v2) | exact QCd (v3) | exact QCd (v4) | exact QCd (v5) | exact QCd (f1) | exact QCd (f2) | exact QCd (f3) | exact QCd (q1) | exact QCd (q2) | exact QCd (q3)); exact rfl; exact rfl; exact rfl) | (apply W.draw2 (id := 10) [0, 0, 3, 7, 15, 31, 63, 127, 255, 255, 1023, 2047, 4095, 8191, 16383, 32767, 65535] [[4], [], [77, 78], [79], [5, 80], [81, 80], [80, 82], [83], [6, 84], [84], [85, 86, 84], [84, 87], [88], [7, 89], [90, 89], [89, 91], [92]] 17 [(77, 16), (78, 0), (79, 453347182355485940514816), (80, 604462909807314587353088), (81, 1208925819614629174706208), (82, 3626777458843887524118528), (83, 6044629098073145873530880), (84, 9671406556917033397649408), (85, 19342813113834066795298880), (86, 19342813113834066795298816), (87, 135399691796838467567091712), (88, 174085318024506601157689344), (89, 309485009821345068724781056), (90, 618970019642690137449562240), (91, 1856910058928070412348686336), (92, 3094850098213450687247810560), (15, 4951760157141521099596496896)] mixed (by kernel_rfl) rfl rfl) | (apply W.draw2 (id := 11) [0, 1, 3, 7, 15, 31, 63, 63, 255, 511, 1023, 2047, 4095, 8191, 16383, 32767, 65535, 131071, 262143] [[15], [93], [9, 94], [95, 94], [94, 96], [97], [11, 98], [98], [99, 100, 98], [98, 101], [102], [12, 103], [104, 103], [103, 105], [106], [14, 107], [108, 107], [107, 109], [110]] 19 [(93, 32768), (94, 9903520314283042199192993792), (95, 19807040628566084398385988096), (96, 59421121885698253195157962752), (97, 99035203142830421991929937920), (98, 158456325028528675187087900672), (99, 316912650057057350374175803392), (100, 316912650057057350374175801344), (101, 2218388550399401452619230609408), (102, 2852213850513516153367582212096), (103, 5070602400912917605986812821504), (104, 10141204801825835211973625647104), (105, 30423614405477505635920876929024), (106, 50706024009129176059868128215040), (107, 81129638414606681695789005144064), (108, 162259276829213363391578010304512), (109, 486777830487640090174734030864384), (110, 811296384146066816957890051440640), (0, 1298074214633706907132624082305024)] mixed (by kernel_rfl) rfl rfl) | (refine W.drawS (id := 4) [0, 0, 0, 6, 14, 30, 63, 127, 255, 255, 0, 1535, 4095] [[2], [3], [], [26, 27], [], [29], [25, 28, 30], [31], [24], [24], [], [4, 32], [33]] [(11, (4, ?_)), (10, (4, ?_))] [(11, 4), (10, 4)] mixed (by kernel_rfl) rfl ?_; rotate_left 2) | (refine W.drawS (id := 5) [0, 0, 0, 6, 14, 30, 63, 127, 255, 255, 0, 1535, 4095] [[2], [], [], [36, 37], [], [39], [35, 38, 40], [41], [34], [34], [], [6, 42], [43]] [(11, (6, ?_)), (10, (6, ?_))] [(11, 6), (10, 6)] mixed (by kernel_rfl) rfl ?_; rotate_left 2) | (refine W.drawS (id := 6) [0, 0, 0, 4, 15, 31, 63, 63, 0, 383, 1023] [[2], [], [], [47], [45, 46, 48], [49], [44], [44], [], [8, 50], [51]] [(9, (8, ?_)), (8, (8, ?_))] [(9, 8), (8, 8)] mixed (by kernel_rfl) rfl ?_; rotate_left 2) | (refine W.drawS (id := 8) [0, 0, 0, 0, 0, 24, 62, 126, 56, 312, 1023, 2047, 4095, 4095, 0, 24575, 65535] [[2], [], [10], [3], [], [59, 60], [57, 58, 61], [62], [], [64], [56, 63, 65], [66], [55], [55], [], [11, 67], [68]] [(15, (11, ?_)), (14, (11, ?_))] [(15, 11), (14, 11)] mixed (by kernel_rfl) rfl ?_; rotate_left 2) | (refine W.drawS (id := 9) [0, 0, 0, 4, 15, 31, 63, 63, 0, 383, 1023] [[2], [10], [], [72], [70, 71, 73], [74], [69], [69], [], [13, 75], [76]] [(9, (13, ?_)), (8, (13, ?_))] [(9, 13), (8, 13)] mixed (by kernel_rfl) rfl ?_; rotate_left 2) | (refine W.condA (ht := fun hb => ?_) (hf := fun hb => ?_) <;> (try simp at hb) <;> (try (exfalso; omega))))
  all_goals first
    | exact Fin.ret ResL.auto
    | trace_state
end
end Go.Proofs.Ytjedkgogjehigaa
end
section
set_option linter.unusedVariables false
set_option linter.unusedSimpArgs false
set_option maxHeartbeats 8000000
set_option linter.unusedSectionVars false
namespace Go.Proofs.Ytjedkgogjehigaa
open Lf Go
attribute [local irreducible] PureOp EffOp Ev RG W Then InBlock Lf.Fin nth App InitE Pick SubE EvL EvD EvP EvR ResL Lf.Lex SubR SubBR EvC FinO FinM ResM ResD FinS val pw digs trimL
section
variable {lets : List Let} {en : EnvQ} {v : EnvV}
theorem askF_iff {e : Exp} : askF lets e v = true ↔ (statF e = true ∧ lets.length ≤ 20) ∧ (lets.any fun y => !statF y.body) = false ∧ validF v = true := by
  unfold askF
  simp only [Bool.and_eq_true, decide_eq_true_iff, Bool.not_eq_true']
theorem zF_one : zF (one01 true) = fB 1 [1] 1 [1] := by
  show PV.agg [_, _, _, _] = PV.agg [_, _, _, _]
  rw [show sgn (one01 true).num = 1 by decide +kernel, show digs (mag (one01 true).num) = [1] by decide +kernel, show sgn ((one01 true).den : Int) = 1 by decide +kernel, show digs (mag ((one01 true).den : Int)) = [1] by decide +kernel]
theorem zF_zero : zF (one01 false) = fB 0 [] 1 [1] := by
  show PV.agg [_, _, _, _] = PV.agg [_, _, _, _]
  rw [show sgn (one01 false).num = 0 by decide +kernel, show digs (mag (one01 false).num) = [] by decide +kernel, show sgn ((one01 false).den : Int) = 1 by decide +kernel, show digs (mag ((one01 false).den : Int)) = [1] by decide +kernel]
/-- the value of a part, where all is right -/
theorem val_ok (hL : LetsOk lets) (oen : en.Ok) {e : Exp} (he : OkE e) (hs : statF e = true) {R : Rs} (h : valF lets en lets.length e = R) : ACalls Try.prog 8 [xV lets, aE e, vV en.V] (resP R) ∧ R.fit := by
  rw [← h]
  exact ⟨value_yes hL oen hs he, valF_fit hL oen hs⟩
end
end Go.Proofs.Ytjedkgogjehigaa
end
section
set_option linter.unusedVariables false
set_option linter.unusedSimpArgs false
set_option maxHeartbeats 8000000
set_option linter.unusedSectionVars false
namespace Go.Proofs.Ytjedkgogjehigaa
open Lf Go
attribute [local irreducible] PureOp EffOp Ev RG W Then InBlock Lf.Fin nth App InitE Pick SubE EvL EvD EvP EvR ResL Lf.Lex SubR SubBR EvC FinO FinM ResM ResD FinS val pw digs trimL
section
variable {lets : List Let} {en : EnvQ} {v : EnvV}
/-- the number that a right fraction stands for -/
def Fq.val (q : Fq) : Rat := Rat.divInt (q.s * Lf.val q.d) (Lf.val q.d')
theorem fqOf_val {r : Rat} : (fqOf r).val = r := by
  unfold Fq.val fqOf
  have hp := den_pos r
  have c := sgn_cases r.den
  rw [val_mag, val_mag, sgn_mag, show mag r.den = r.den by omega, Rat.num_divInt_den]
theorem fqs_inj {a b : List Rat} (h : a.map fqOf = b.map fqOf) : a = b := by
  have h2 := congrArg (List.map Fq.val) h
  rw [List.map_map, List.map_map] at h2
  have e : (Fq.val ∘ fqOf) = id := funext fun r => fqOf_val
  rwa [e, List.map_id, List.map_id] at h2
theorem V_inj {en en' : EnvQ} (h : en.V = en'.V) : en = en' := by
  obtain ⟨a, b, c, d⟩ := en
  obtain ⟨a', b', c', d'⟩ := en'
  unfold EnvQ.V at h
  simp only [EnvV.mk.injEq] at h
  obtain ⟨rfl, h2, rfl, h4⟩ := h
  rw [fqs_inj h2, fqs_inj h4]
/-- what Value gives, and when it is no ErrArg -/
theorem value_res (hl : LIn lets) {e : Exp} (he : OkE e) (hv : v.Len) : ∃ R : Rs, ACalls Try.prog 8 [xV lets, aE e, vV v] (resP R) ∧ R.fit ∧ (R.e ≠ 1 → ∃ en : EnvQ, en.Ok ∧ LetsOk lets ∧ v = en.V ∧ statF e = true ∧ R = valF lets en lets.length e) := by
  by_cases ha : askF lets e v = false
  · exact ⟨.err 1, value_arg hl he hv ha, (by decide : (1 : Int) ≠ 0), fun h => absurd rfl h⟩
  · have ha' := ha
    rw [Bool.not_eq_false, askF_iff] at ha'
    obtain ⟨⟨a1, a2⟩, a3, a4⟩ := ha'
    obtain ⟨en, oen, rfl⟩ := env_q hv a4
    have hL := lets_ok hl a2 a3
    exact ⟨_, value_yes hL oen a1 he, valF_fit hL oen a1, fun _ => ⟨en, oen, hL, rfl, a1, rfl⟩⟩
theorem Rs.split (R : Rs) : ∃ (x1 : Int) (x2 : List Int) (x3 : Int) (x4 : List Int) (c : Int), resP R = .tup [.agg [.int .i64 x1, .sl (x2.map Lf.encI), .int .i64 x3, .sl (x4.map Lf.encI)], cI c] ∧ R.v = .agg [.int .i64 x1, .sl (x2.map Lf.encI), .int .i64 x3, .sl (x4.map Lf.encI)] ∧ R.e = c := by
  obtain ⟨x1, x2, x3, x4, h⟩ := R.v_agg
  exact ⟨x1, x2, x3, x4, R.e, by unfold resP; rw [h], h, rfl⟩
attribute [local irreducible] sgn mag gcdZ quoZ remZ fullZ fullE
end
end Go.Proofs.Ytjedkgogjehigaa
end
section
set_option linter.unusedVariables false
set_option linter.unusedSimpArgs false
set_option maxHeartbeats 8000000
set_option linter.unusedSectionVars false
namespace Go.Proofs.Ytjedkgogjehigaa
open Lf Go
attribute [local irreducible] PureOp EffOp Ev RG W Then InBlock Lf.Fin nth App InitE Pick SubE EvL EvD EvP EvR ResL Lf.Lex SubR SubBR EvC FinO FinM ResM ResD FinS val pw digs trimL
section
mutual
def hasF (z : Str) : Exp → Bool
  | .mk _ _ _ s l => decide (s = z) || hasFs z l
def hasFs (z : Str) : List Exp → Bool
  | [] => false
  | e :: r => hasF z e || hasFs z r
end
theorem hasFs_any (z : Str) : ∀ l, hasFs z l = l.any (hasF z)
  | [] => rfl
  | e :: r => by rw [hasFs, hasFs_any z r]; rfl
theorem any_takeE {α : Type} [Inhabited α] {l : List α} {p : α → Bool} {k : Nat} (h : k < l.length) : (l.take (k + 1)).any p = ((l.take k).any p || p (nth l k)) := by
  rw [take_nth h]; simp
theorem any_yesE {α : Type} [Inhabited α] {l : List α} {p : α → Bool} {k : Nat} (hk : k < l.length) (h : p (nth l k) = true) : l.any p = true := List.any_eq_true.2 ⟨_, nth_mem hk, h⟩
theorem has_ok (z : Str) (e : Exp) : OkE e → ACalls Try.prog 18 [aE e, cS z] (.pv (cB (hasF z e))) := by
  refine Exp.ind (P := fun e => OkE e → ACalls Try.prog 18 [aE e, cS z] (.pv (cB (hasF z e)))) (fun op n u s l ih he => ?_) e
  cases he with
  | mk hs hl h =>
  rw [aE_mk, hasF, hasFs_any]
  by_cases hz : s = z
  · rw [decide_eq_true hz]
    refine ACalls.of_W (qs := [cB (true || l.any (hasF z))]) [4] 24 Try.func18 (by kernel_rfl) rfl rfl rfl fun G => ?_
    refine W.initA (hw := ?_)
    repeat' (first | ((first | apply U_); (first | exact QX.B TYok | exact QX.Len TYok | exact QX.Idx TYok); exact rfl) | refine SX.Box TYok (h := ?_) | refine SC ?_ | (apply S_isnil TYok; exact rfl; exact rfl; exact rfl; exact Ev.auto; intro bn hnil) | (refine W.condA (ht := fun hb => ?_) (hf := fun hb => ?_) <;> (try simp at hb) <;> (try (exfalso; omega))))
    all_goals first
      | exact Fin.ret ResL.auto
      | (exfalso; simp_all; done)
      | trace_state
  rw [decide_eq_false hz]
  refine ACalls.of_W (qs := [cB (false || l.any (hasF z))]) [4] 24 Try.func18 (by kernel_rfl) rfl rfl rfl fun G => ?_
  refine W.initA (hw := ?_)
  repeat' (first | ((first | apply U_); (first | exact QX.B TYok | exact QX.Len TYok | exact QX.Idx TYok); exact rfl) | refine SX.Box TYok (h := ?_) | refine SC ?_ | (apply S_isnil TYok; exact rfl; exact rfl; exact rfl; exact Ev.auto; intro bn hnil) | (refine W.condA (ht := fun hb => ?_) (hf := fun hb => ?_) <;> (try simp at hb) <;> (try (exfalso; first | exact hz hb | omega))))
  apply W.loopP (σ := Nat) 24 [1, 2] (fun k => k ≤ l.length ∧ (l.take k).any (hasF z) = false) (fun k => [(5, vI k)]) (fun _ => [(2, ⟨25, 5, [[.int .i64 op, .int .i64 n, .int .i64 u, .str s, .sl (l.map encX)]]⟩)]) (fun k => l.length - k) (0)
  case hp => repeat (first | exact Pick.nil | apply Pick.cons rfl)
  case h0 =>
    refine ⟨by simp, ?_⟩
    exact Le.auto
  case round =>
    rintro k ⟨h1, h2⟩
    apply W.norm (by repeat (first | exact App.nil | apply App.cons))
    by_cases hk : k < l.length
    · have hi := ih _ (nth_mem hk) (h _ (nth_mem hk))
      cases hc : hasF z (nth l k) with
      | true =>
        rw [hc] at hi
        rw [any_yesE hk hc]
        repeat' (first | ((first | apply U_); (first | exact QX.B TYok | exact QX.Len TYok | exact QX.Idx TYok | exact QCd (hi)); exact rfl) | refine SX.Box TYok (h := ?_) | refine SC ?_ | (apply S_isnil TYok; exact rfl; exact rfl; exact rfl; exact Ev.auto; intro bn hnil) | (refine W.condA (ht := fun hb => ?_) (hf := fun hb => ?_) <;> (try simp at hb) <;> (try (exfalso; omega))))
        all_goals exact Fin.ret ResL.auto
      | false =>
        rw [hc] at hi
        repeat' (first | ((first | apply U_); (first | exact QX.B TYok | exact QX.Len TYok | exact QX.Idx TYok | exact QCd (hi)); exact rfl) | refine SX.Box TYok (h := ?_) | refine SC ?_ | (apply S_isnil TYok; exact rfl; exact rfl; exact rfl; exact Ev.auto; intro bn hnil) | (refine W.condA (ht := fun hb => ?_) (hf := fun hb => ?_) <;> (try simp at hb) <;> (try (exfalso; omega))))
        all_goals first
          | (refine ⟨k + 1, ⟨by omega, by rw [any_takeE hk, h2, hc]; rfl⟩, ?_, by (try simp only); omega⟩; exact Le.auto)
          | (exfalso; omega)
          | trace_state
    · obtain rfl : k = l.length := by omega
      rw [List.take_length] at h2
      rw [h2]
      repeat' (first | ((first | apply U_); (first | exact QX.B TYok | exact QX.Len TYok | exact QX.Idx TYok); exact rfl) | refine SX.Box TYok (h := ?_) | refine SC ?_ | (apply S_isnil TYok; exact rfl; exact rfl; exact rfl; exact Ev.auto; intro bn hnil) | (refine W.condA (ht := fun hb => ?_) (hf := fun hb => ?_) <;> (try simp at hb) <;> (try (exfalso; omega))))
      all_goals exact Fin.ret ResL.auto
theorem bodies_ok (z : Str) {lets : List Let} (hl : LIn lets) : ACalls Try.prog 19 [slL lets, cS z] (.pv (cB (lets.any fun y => hasF z y.body))) := by
  have hlen := hl.len
  refine ACalls.of_W (qs := [cB (lets.any fun y => hasF z y.body)]) [4] 19 Try.func19 (by kernel_rfl) rfl rfl rfl fun G => ?_
  refine W.initA (hw := ?_)
  repeat' (first | ((first | apply U_); (first | exact QX.B TYok | exact QX.Len TYok | exact QX.Idx TYok); exact rfl) | refine SC ?_ | (refine W.condA (ht := fun hb => ?_) (hf := fun hb => ?_) <;> (try simp at hb) <;> (try (exfalso; omega))))
  apply W.loopP (σ := Nat) 19 [0, 1] (fun k => k ≤ lets.length ∧ ((lets.take k).any fun y => hasF z y.body) = false) (fun k => [(5, vI k)]) (fun _ => []) (fun k => lets.length - k) (0)
  case hp => repeat (first | exact Pick.nil | apply Pick.cons rfl)
  case h0 =>
    refine ⟨by simp, ?_⟩
    exact Le.auto
  case round =>
    rintro k ⟨h1, h2⟩
    apply W.norm (by repeat (first | exact App.nil | apply App.cons))
    by_cases hk : k < lets.length
    · have hi := has_ok z (nth lets k).body (hl.ok _ (nth_mem hk))
      cases hc : hasF z (nth lets k).body with
      | true =>
        rw [hc] at hi
        rw [any_yesE hk hc]
        repeat' (first | ((first | apply U_); (first | exact QX.B TYok | exact QX.Len TYok | exact QX.Idx TYok | exact QCd (hi)); exact rfl) | refine SC ?_ | (refine W.condA (ht := fun hb => ?_) (hf := fun hb => ?_) <;> (try simp at hb) <;> (try (exfalso; omega))))
        all_goals exact Fin.ret ResL.auto
      | false =>
        rw [hc] at hi
        repeat' (first | ((first | apply U_); (first | exact QX.B TYok | exact QX.Len TYok | exact QX.Idx TYok | exact QCd (hi)); exact rfl) | refine SC ?_ | (refine W.condA (ht := fun hb => ?_) (hf := fun hb => ?_) <;> (try simp at hb) <;> (try (exfalso; omega))))
        all_goals first
          | (refine ⟨k + 1, ⟨by omega, by rw [any_takeE hk, h2, hc]; rfl⟩, ?_, by (try simp only); omega⟩; exact Le.auto)
          | (exfalso; omega)
          | trace_state
    · obtain rfl : k = lets.length := by omega
      rw [List.take_length] at h2
      rw [h2]
      repeat' (first | ((first | apply U_); (first | exact QX.B TYok | exact QX.Len TYok | exact QX.Idx TYok); exact rfl) | refine SC ?_ | (refine W.condA (ht := fun hb => ?_) (hf := fun hb => ?_) <;> (try simp at hb) <;> (try (exfalso; omega))))
      all_goals exact Fin.ret ResL.auto
def EnvQ.more (en : EnvQ) (z : Str) (r : Rat) : EnvQ := ⟨en.names ++ [z], en.vals ++ [r], en.iss ++ [z], en.rates ++ [r]⟩
theorem lookF_more {names : List Str} {vals : List Rat} {s z : Str} {r : Rat} (hl : names.length = vals.length) (hs : s ≠ z) : lookF (names ++ [z]) (vals ++ [r]) s = lookF names vals s := by
  unfold lookF
  by_cases hm : s ∈ names
  · have hi := List.idxOf_lt_length_iff.2 hm
    rw [if_pos (List.mem_append_left _ hm), if_pos hm, List.idxOf_append, if_pos hm, nth, nth, List.getD_eq_getElem?_getD, List.getElem?_append_left (by omega), List.getD_eq_getElem?_getD]
  · rw [if_neg hm, if_neg fun h => (List.mem_append.1 h).elim hm (fun h => hs (List.mem_singleton.1 h))]
theorem lookN_same {lets : List Let} {L : Let} {vs : List Rs} {s : Str} (h : vs.length ≤ lets.length) : lookN (lets ++ [L]) vs s = lookN lets vs s := by
  unfold lookN
  rw [List.take_append_of_le_length h]
theorem lookN_more {lets : List Let} {L : Let} {vs : List Rs} {x : Rs} {s : Str} (h : vs.length = lets.length) (hs : s ≠ L.name) : lookN (lets ++ [L]) (vs ++ [x]) s = lookN lets vs s := by
  have e1 : (lets ++ [L]).take (vs ++ [x]).length = lets ++ [L] := by
    rw [List.length_append, h, show lets.length + [x].length = (lets ++ [L]).length by simp, List.take_length]
  have hL : nameEq s L = false := decide_eq_false (Ne.symm hs)
  unfold lookN
  rw [e1, h, List.take_length]
  cases ha : lets.any (nameEq s) with
  | true =>
    have e2 : (lets ++ [L]).any (nameEq s) = true := by rw [List.any_append, ha]; rfl
    have hi := List.findIdx_lt_length_of_exists (List.any_eq_true.1 ha)
    rw [e2, if_pos rfl, if_pos rfl, List.findIdx_append, if_pos hi, nth, nth, List.getD_eq_getElem?_getD, List.getElem?_append_left (by omega), List.getD_eq_getElem?_getD]
  | false =>
    have e2 : (lets ++ [L]).any (nameEq s) = false := by rw [List.any_append, ha]; simp [hL]
    rw [e2]; rfl
theorem ev_wide {lets lets' : List Let} {en : EnvQ} {vs vs' : List Rs} {z : Str} {r : Rat} (h1 : en.names.length = en.vals.length) (h2 : en.iss.length = en.rates.length) (h : ∀ s, s ≠ z → lookN lets' vs' s = lookN lets vs s) (e : Exp) : hasF z e = false → evF lets' (en.more z r) vs' e = evF lets en vs e := by
  refine Exp.ind (P := fun e => hasF z e = false → evF lets' (en.more z r) vs' e = evF lets en vs e) (fun op n u s l ih he => ?_) e
  rw [hasF, hasFs_any, Bool.or_eq_false_iff, decide_eq_false_iff_not] at he
  obtain ⟨hs, ha⟩ := he
  have hm : l.map (evF lets' (en.more z r) vs') = l.map (evF lets en vs) := List.map_congr_left fun x hx => ih x hx (by
    rw [← Bool.not_eq_true]; intro q; rw [List.any_eq_true.2 ⟨x, hx, q⟩] at ha; cases ha)
  rw [evF_mk, evF_mk, hm, stepF, stepF, h s hs, show lookF (en.more z r).names (en.more z r).vals s = lookF en.names en.vals s from lookF_more h1 hs, show lookF (en.more z r).iss (en.more z r).rates s = lookF en.iss en.rates s from lookF_more h2 hs]
theorem tab_wide {lets : List Let} {L : Let} {en : EnvQ} {r : Rat} (h1 : en.names.length = en.vals.length) (h2 : en.iss.length = en.rates.length) (hb : (lets.any fun y => hasF L.name y.body) = false) : ∀ k, k ≤ lets.length → tabF (lets ++ [L]) (en.more L.name r) k = tabF lets en k
  | 0, _ => rfl
  | k + 1, hk => by
    have ih := tab_wide (r := r) h1 h2 hb k (by omega)
    rw [tabF, tabF, ih]
    have hn : nth (lets ++ [L]) k = nth lets k := by rw [nth, nth, List.getD_eq_getElem?_getD, List.getElem?_append_left (by omega), List.getD_eq_getElem?_getD]
    rw [hn, ev_wide h1 h2 (fun s hs => lookN_same (by rw [tabF_len]; omega)) _ (by
      rw [← Bool.not_eq_true]; intro q
      rw [List.any_eq_true.2 ⟨nth lets k, nth_mem (by omega), q⟩] at hb; cases hb)]
theorem val_wide {lets : List Let} {L : Let} {en : EnvQ} {r : Rat} {e : Exp} (h1 : en.names.length = en.vals.length) (h2 : en.iss.length = en.rates.length) (hb : (lets.any fun y => hasF L.name y.body) = false) (he : hasF L.name e = false) :
    valF (lets ++ [L]) (en.more L.name r) (lets ++ [L]).length e = valF lets en lets.length e := by
  rw [valF, valF, List.length_append, show lets.length + [L].length = lets.length + 1 from rfl, tabF, tab_wide h1 h2 hb _ (Nat.le_refl _)]
  exact ev_wide h1 h2 (fun s hs => lookN_more (tabF_len ..) hs) e he
end
end Go.Proofs.Ytjedkgogjehigaa
end
section
set_option linter.unusedVariables false
set_option linter.unusedSimpArgs false
set_option linter.unusedSectionVars false
namespace Lf
open Go Go.RowKit
section
variable {P : Program} {G : Ghost} {Φ : Frz} {β : Own} {a : Act} {w : World}
/-- an operation writes no slot but its own -/
theorem wp_tmps {o : Oper} {N : Act → World → Prop} (h : o.wp P a w N (fun _ _ _ => False)) : o.wp P a w (fun a' w' => N a' w' ∧ ∃ u, a'.tmps = (a.put o.dst u).tmps) (fun _ _ _ => False) := by
  unfold Oper.wp at *
  generalize (execOp a.eval o).run P w = r at *
  cases r with
  | ok out w' =>
    cases out with
    | value v => exact ⟨h, v, rfl⟩
    | skip => exact ⟨h, undef, rfl⟩
    | defer d => exact ⟨h, undef, by simp only [Act.put]; split <;> rfl⟩
    | enter f args =>
      refine Calls.mono h fun e w'' he => ?_
      cases e with
      | returned v => exact ⟨he, v, rfl⟩
      | panicked c => exact he
      | outgrown => exact he
    | row row args => exact Rows.mono h fun v w'' he => ⟨he, v, rfl⟩
    | _ => exact h
  | halt hl w' => cases hl <;> exact h
theorem put_other {a : Act} {d : Option Nat} {u : Value} {t : Nat} (h : d ≠ some t) : (a.put d u).tmps.getD t undef = a.tmps.getD t undef := by
  cases d with
  | none => rfl
  | some d =>
    have hd : d ≠ t := fun e => h (by rw [e])
    simp only [Act.put]
    rw [Array.getD_eq_getD_getElem?, Array.getD_eq_getD_getElem?, Array.getElem?_setIfInBounds_ne hd]
theorem lk_cat {α : Type _} (l r : List (Nat × α)) (t : Nat) : lk (l ++ r) t = match lk l t with | some x => some x | none => lk r t := by
  induction l with
  | nil => rfl
  | cons p l ih =>
    obtain ⟨k, x⟩ := p
    rw [List.cons_append, lk_cons, lk_cons, ih]
    split <;> rfl
theorem cat_l {α : Type _} {l r : List (Nat × α)} {t : Nat} {x : α} (h : lk l t = some x) : lk (l ++ r) t = some x := by rw [lk_cat, h]
theorem cat_r {α : Type _} {l r : List (Nat × α)} {t : Nat} (h : lk l t = none) : lk (l ++ r) t = lk r t := by rw [lk_cat, h]
theorem AVRel.sub2 {Φ : Frz} {β β' : Own} {bl bl' : List (Nat × Blk)} {v : Value} {x : AV} (h : AVRel Φ β bl v x) (hs : ∀ k, x.ment k = true → lk bl' k = lk bl k ∧ β' k = β k) : AVRel Φ β' bl' v x := by
  cases x with
  | pv p => exact h
  | tup l => exact h
  | top => trivial
  | addr n i off =>
    obtain ⟨q1, q2⟩ := hs n (Nat.beq_refl n)
    obtain ⟨b, cap, B, h1, h2, h3⟩ := h
    exact ⟨b, cap, B, q2.trans h1, q1.trans h2, h3⟩
  | slc n =>
    obtain ⟨q1, q2⟩ := hs n (Nat.beq_refl n)
    obtain ⟨B, h1, h2, h3⟩ := h
    exact ⟨B, q1.trans h1, h2, by rw [q2]; exact h3⟩
  | mp n =>
    obtain ⟨q1, q2⟩ := hs n (Nat.beq_refl n)
    obtain ⟨b, cap, B, h1, h2, h3⟩ := h
    exact ⟨b, cap, B, q2.trans h1, q1.trans h2, h3⟩
  | mpn n bb =>
    obtain ⟨q1, q2⟩ := hs n (Nat.beq_refl n)
    obtain ⟨b, cap, B, h1, h2, h3⟩ := h
    exact ⟨b, cap, B, q2.trans h1, q1.trans h2, h3⟩
  | itr d n =>
    obtain ⟨q1, q2⟩ := hs d (by simp [AV.ment])
    obtain ⟨q3, q4⟩ := hs n (by simp [AV.ment])
    obtain ⟨b, cap, B, M, c, h1, h2, h3, h4, h5, h6⟩ := h
    exact ⟨b, cap, B, M, c, q2.trans h1, q1.trans h2, h3, q4.trans h4, q3.trans h5, h6⟩
  | pin n b c f =>
    obtain ⟨q1, q2⟩ := hs n (Nat.beq_refl n)
    obtain ⟨B, h1, h2, h3⟩ := h
    exact ⟨B, q2.trans h1, q1.trans h2, h3⟩
/-- what stands aside, and what an operation does beside it -/
structure Aside (XE : List (Nat × (Prop × AV))) (XB : List (Nat × Blk)) (A : St) : Prop where
  slots : ∀ t e, lk XE t = some e → lk A.env t = none
  names : ∀ k C, lk XB k = some C → lk A.blks k = none
  clean : ∀ t e, lk A.env t = some e → ∀ k C, lk XB k = some C → e.2.ment k = false
  own : ∀ t e, lk XE t = some e → ∀ k, e.2.ment k = true → ∃ C, lk XB k = some C
theorem EffOp.frame {XE : List (Nat × (Prop × AV))} {XB : List (Nat × Blk)} {A A' : St} {o : Oper} (hn : A'.n = A.n) (h1 : Aside XE XB A) (h2 : Aside XE XB A') (hd : ∀ t e, lk XE t = some e → o.dst ≠ some t) (h : ∀ G, EffOp P G A o A') :
    EffOp P G (St.mk A.n (XE ++ A.env) (XB ++ A.blks)) o (St.mk A.n (XE ++ A'.env) (XB ++ A'.blks)) := fun Φ β a w hs => by
  have hxb : ∀ k C, lk A.blks k = some C → lk XB k = none := fun k C hk => by
    cases hx : lk XB k with
    | none => rfl
    | some D => rw [h1.names k D hx] at hk; cases hk
  have hlt : ∀ b, (G.K b ∨ ∃ k C cap, lk XB k = some C ∧ β k = some (b, cap)) → b < w.heap.size := fun b hb => by
    rcases hb with hb | ⟨k, C, cap, hk, hb⟩
    · exact Nat.lt_of_lt_of_le (G.lt b hb) hs.kept.size
    · exact (hs.blk k C b cap (cat_l hk) hb).1.lt
  let G' : Ghost := { w0 := w, K := fun b => G.K b ∨ ∃ k C cap, lk XB k = some C ∧ β k = some (b, cap), F0 := Φ, lt := hlt }
  have hs0 : Sat G' Φ β A a w := by
    refine ⟨⟨rfl, rfl, rfl, Nat.le_refl _, fun b _ => rfl⟩, hs.fits, fun b _ => rfl, hs.siz, hs.dfr, fun t q v ht => ?_, fun k C b cap hk hb => ?_, fun k C hk hb => hs.vir k C (by show lk (XB ++ A.blks) k = _; rw [cat_r (hxb k C hk)]; exact hk) hb, fun k k' C C' b c c' hk hk' hb hb' => hs.inj k k' C C' b c c' (by show lk (XB ++ A.blks) k = _; rw [cat_r (hxb k C hk)]; exact hk) (by show lk (XB ++ A.blks) k' = _; rw [cat_r (hxb k' C' hk')]; exact hk') hb hb'⟩
    · have hx : lk XE t = none := by
        cases hx : lk XE t with
        | none => rfl
        | some e => rw [h1.slots t e hx] at ht; cases ht
      have := hs.env t q v (by show lk (XE ++ A.env) t = _; rw [cat_r hx]; exact ht)
      refine ⟨fun hq => (this.1 hq).sub fun k hk => ?_, this.2⟩
      cases hx2 : lk XB k with
      | none => show lk A.blks k = lk (XB ++ A.blks) k; rw [cat_r hx2]
      | some C => have := h1.clean t (q, v) ht k C hx2; simp only at this; rw [this] at hk; cases hk
    · obtain ⟨q1, q2, q3⟩ := hs.blk k C b cap (by show lk (XB ++ A.blks) k = _; rw [cat_r (hxb k C hk)]; exact hk) hb
      refine ⟨q1, fun hK => ?_, q3⟩
      rcases hK with hK | ⟨k2, C2, cap2, hk2, hb2⟩
      · exact q2 hK
      · have := hs.inj k k2 C C2 b cap cap2 (by show lk (XB ++ A.blks) k = _; rw [cat_r (hxb k C hk)]; exact hk) (cat_l hk2) hb hb2
        subst this
        rw [hxb k C hk] at hk2; cases hk2
  refine Oper.wp_mono' (wp_tmps (h G' Φ β a w hs0)) (fun a' w' ⟨⟨Φ', β', hs', hle⟩, u, hu⟩ => ?_) (fun _ _ _ h => h)
  have hxb' : ∀ k C, lk A'.blks k = some C → lk XB k = none := fun k C hk => by
    cases hx : lk XB k with
    | none => rfl
    | some D => rw [h2.names k D hx] at hk; cases hk
  have keepX : ∀ k C b cap, lk XB k = some C → β k = some (b, cap) → w'.heap[b]? = w.heap[b]? := fun k C b cap hk hb => hs'.kept.block b (.inr ⟨k, C, cap, hk, hb⟩)
  refine ⟨Φ', fun k => match lk XB k with | some _ => β k | none => β' k, ?_, hle⟩
  refine ⟨⟨hs'.kept.os.trans hs.kept.os, hs'.kept.tape.trans hs.kept.tape, hs'.kept.output.trans hs.kept.output, Nat.le_trans hs.kept.size hs'.kept.size, fun b hb => (hs'.kept.block b (.inl hb)).trans (hs.kept.block b hb)⟩, hs'.fits, fun b hb => (hs'.old b (.inl hb)).trans (hs.old b hb), by rw [← hn]; exact hs'.siz, hs'.dfr, fun t q v ht => ?_, fun k C b cap hk hb => ?_, fun k C hk hb => ?_, fun k k' C C' b c c' hk hk' hb hb' => ?_⟩
  · have ht : lk (XE ++ A'.env) t = some (q, v) := ht
    cases hx : lk XE t with
    | some e =>
      rw [cat_l hx] at ht
      obtain rfl := Option.some.inj ht
      have h5 := hs.env t q v (cat_l hx)
      have htm : a'.tmps.getD t undef = a.tmps.getD t undef := by rw [hu]; exact put_other (hd t _ hx)
      rw [htm]
      refine ⟨fun hq => ?_, h5.2⟩
      refine ((h5.1 hq).mono hle).sub2 (fun k hk => ?_)
      obtain ⟨C, hC⟩ := h1.own t (q, v) hx k hk
      refine ⟨?_, by rw [hC]⟩
      show lk (XB ++ A'.blks) k = lk (XB ++ A.blks) k
      rw [cat_l hC, cat_l hC]
    | none =>
      rw [cat_r hx] at ht
      have h5 := hs'.env t q v ht
      refine ⟨fun hq => (h5.1 hq).sub2 (fun k hk => ?_), h5.2⟩
      cases hx2 : lk XB k with
      | none => exact ⟨by show lk (XB ++ A'.blks) k = lk A'.blks k; rw [cat_r hx2], rfl⟩
      | some C => have := h2.clean t (q, v) ht k C hx2; simp only at this; rw [this] at hk; cases hk
  · have hk : lk (XB ++ A'.blks) k = some C := hk
    cases hx : lk XB k with
    | some D =>
      rw [cat_l hx] at hk
      obtain rfl := Option.some.inj hk
      simp only [hx] at hb
      obtain ⟨q1, q2, q3⟩ := hs.blk k D b cap (cat_l hx) hb
      refine ⟨q1.keep hle (keepX k D b cap hx hb), q2, ?_⟩
      rw [hs'.old b (.inr ⟨k, D, cap, hx, hb⟩)]
      exact q3
    | none =>
      rw [cat_r hx] at hk
      simp only [hx] at hb
      obtain ⟨q1, q2, q3⟩ := hs'.blk k C b cap hk hb
      exact ⟨q1, fun hK => q2 (.inl hK), q3⟩
  · have hk : lk (XB ++ A'.blks) k = some C := hk
    cases hx : lk XB k with
    | some D =>
      rw [cat_l hx] at hk
      obtain rfl := Option.some.inj hk
      simp only [hx] at hb
      exact hs.vir k D (cat_l hx) hb
    | none =>
      rw [cat_r hx] at hk
      simp only [hx] at hb
      exact hs'.vir k C hk hb
  · have hk : lk (XB ++ A'.blks) k = some C := hk
    have hk' : lk (XB ++ A'.blks) k' = some C' := hk'
    cases hx : lk XB k with
    | some D =>
      simp only [hx] at hb
      cases hx' : lk XB k' with
      | some D' =>
        simp only [hx'] at hb'
        exact hs.inj k k' D D' b c c' (cat_l hx) (cat_l hx') hb hb'
      | none =>
        rw [cat_r hx'] at hk'
        simp only [hx'] at hb'
        exact absurd (.inr ⟨k, D, c, hx, hb⟩) (hs'.blk k' C' b c' hk' hb').2.1
    | none =>
      rw [cat_r hx] at hk
      simp only [hx] at hb
      cases hx' : lk XB k' with
      | some D' =>
        simp only [hx'] at hb'
        exact absurd (.inr ⟨k', D', c', hx', hb'⟩) (hs'.blk k C b c hk hb).2.1
      | none =>
        rw [cat_r hx'] at hk'
        simp only [hx'] at hb'
        exact hs'.inj k k' C C' b c c' hk hk' hb hb'
end
inductive CK where
  | fp (d : Nat) (p : PV)
  | ff (d : Nat) (v : AV) (B : Blk)
  | ch (A : St)
def CK.free : CK → Bool
  | .ch _ => false
  | _ => true
def CK.pair : CK → Option (Nat × (Prop × AV))
  | .fp d p => some (d, (True, .pv p))
  | .ff d v B => some (d, (True, v))
  | .ch _ => none
def CK.blk : CK → Option (Nat × Blk)
  | .ff d v B => some (d, B)
  | _ => none
def CK.step (A : St) : CK → St
  | .fp d p => St.mk A.n ((d, (True, .pv p)) :: A.env) A.blks
  | .ff d v B => St.mk A.n ((d, (True, v)) :: A.env) ((d, B) :: A.blks)
  | .ch A' => A'
def tS (A : St) (ks : List CK) : St := ks.foldl CK.step A
def xs {α : Type _} (f : CK → Option α) (L : Nat → Bool) : Nat → List CK → List α
  | _, [] => []
  | i, k :: r => xs f L (i + 1) r ++ (if L i then (f k).toList else [])
theorem xs_app {α : Type _} {f : CK → Option α} {L : Nat → Bool} : ∀ (a b : List CK) (i : Nat), xs f L i (a ++ b) = xs f L (i + a.length) b ++ xs f L i a
  | [], b, i => by simp [xs]
  | k :: a, b, i => by rw [List.cons_append, xs, xs, xs_app a b (i + 1), List.append_assoc, List.length_cons]; congr 2; omega
theorem xs_congr {α : Type _} {f : CK → Option α} {L L' : Nat → Bool} : ∀ (a : List CK) (i : Nat), (∀ j, i ≤ j → j < i + a.length → L j = L' j) → xs f L i a = xs f L' i a
  | [], i, _ => rfl
  | k :: a, i, h => by rw [xs, xs, h i (Nat.le_refl _) (by simp), xs_congr a (i + 1) fun j h1 h2 => h j (by omega) (by rw [List.length_cons]; omega)]
theorem xs_mem {β : Type _} {f : CK → Option (Nat × β)} {L : Nat → Bool} {t : Nat} {e : β} : ∀ (ks : List CK) (i : Nat), (t, e) ∈ xs f L i ks → ∃ j k, ks[j]? = some k ∧ L (i + j) = true ∧ f k = some (t, e)
  | [], i, h => by simp [xs] at h
  | k :: r, i, h => by
    rw [xs] at h
    rcases List.mem_append.1 h with h | h
    · obtain ⟨j, k', h1, h2, h3⟩ := xs_mem r (i + 1) h
      exact ⟨j + 1, k', by simpa using h1, by rw [show i + (j + 1) = i + 1 + j by omega]; exact h2, h3⟩
    · split at h
      · rename_i hL
        exact ⟨0, k, rfl, hL, by cases hf : f k with
          | none => rw [hf] at h; simp at h
          | some y => rw [hf] at h; simp at h; rw [← h]⟩
      · cases h
theorem mem_xs {α : Type _} {f : CK → Option α} {L : Nat → Bool} {x : α} : ∀ (ks : List CK) (i j : Nat) (k : CK), ks[j]? = some k → L (i + j) = true → f k = some x → x ∈ xs f L i ks
  | [], i, j, k, h, _, _ => by simp at h
  | k0 :: r, i, 0, k, h, hL, hf => by
    simp at h; subst h
    have hL : L i = true := hL
    rw [xs, hL, hf]; simp
  | k0 :: r, i, j + 1, k, h, hL, hf => by
    rw [xs]
    exact List.mem_append_left _ (mem_xs r (i + 1) j k (by simpa using h) (by rw [show i + 1 + j = i + (j + 1) by omega]; exact hL) hf)
theorem tS_free : ∀ (ks : List CK) (A : St) (i : Nat), (∀ k ∈ ks, k.free = true) → tS A ks = St.mk A.n (xs CK.pair (fun _ => true) i ks ++ A.env) (xs CK.blk (fun _ => true) i ks ++ A.blks)
  | [], A, i, _ => rfl
  | k :: r, A, i, h => by
    have ih := tS_free r (k.step A) (i + 1) fun x hx => h x (List.mem_cons_of_mem _ hx)
    rw [show tS A (k :: r) = tS (k.step A) r from rfl, ih, xs, xs]
    have hk := h k (by simp)
    cases k with
    | fp d p => simp [CK.step, CK.pair, CK.blk]
    | ff d v B => simp [CK.step, CK.pair, CK.blk]
    | ch A' => cases hk
def AV.isPv : AV → Bool
  | .pv _ => true
  | _ => false
theorem isPv_ment {v : AV} (h : v.isPv = true) (k : Nat) : v.ment k = false := by cases v <;> first | rfl | cases h
structure ChainOk (P : Program) (n : Nat) (ms : List Nat) (ks : List CK) (i : Nat) (o : Oper) (T A' : St) : Prop where
  guard : o.guard = none
  eff : ∀ G, EffOp P G T o A'
  hn : A'.n = n
  keep : ∀ t q p, o.dst ≠ some t → (lk A'.env t = some (q, .pv p) ↔ lk T.env t = some (q, .pv p))
  all : ∀ j, j < i → (ms.getD i 0).testBit j = true
  slots : ∀ j k, i < j → ks[j]? = some k → ∀ d e, k.pair = some (d, e) → lk T.env d = none ∧ lk A'.env d = none ∧ o.dst ≠ some d
  names : ∀ j k, i < j → ks[j]? = some k → ∀ d B, k.blk = some (d, B) → (lk T.blks d = none ∧ lk A'.blks d = none) ∧ (∀ t e, lk T.env t = some e → e.2.ment d = false) ∧ ∀ t e, lk A'.env t = some e → e.2.ment d = false
def StepC (P : Program) (n : Nat) (l : List Oper) (ms : List Nat) (A0 : St) (ks : List CK) (ts : List Nat) (i : Nat) (o : Oper) (T : St) : CK → Prop
  | .fp d p => ((o.dst = some d ∧ o.guard = none ∧ d < n) ∧ (∀ G, PureOp P G (St.mk n (only ts T.env) []) o True (.pv p))) ∧ (∀ t e, lk (only ts T.env) t = some e → e.2.isPv = true) ∧ ∀ t ∈ ts, ∀ (j : Nat) (o' : Oper) (k : CK), l[j]? = some o' → o'.dst = some t → ks[j]? = some k → k.free = true
  | .ff d v B => ((o.dst = some d ∧ o.guard = none ∧ lk A0.blks d = none) ∧ (∀ k, v.ment k = true → k = d) ∧ ∀ G, FreshV P G n (only ts T.env) o d B v) ∧ (∀ t e, lk (only ts T.env) t = some e → e.2.isPv = true) ∧ ∀ t ∈ ts, ∀ (j : Nat) (o' : Oper) (k : CK), l[j]? = some o' → o'.dst = some t → ks[j]? = some k → k.free = true
  | .ch A' => ChainOk P n ms ks i o T A'
section
variable {P : Program} {G : Ghost} {n : Nat} {l : List Oper} {ms : List Nat} {tss : List (List Nat)} {A0 : St} {ks : List CK}
theorem stepC_dst {ts : List Nat} {i : Nat} {o : Oper} {T : St} {k : CK} (h : StepC P n l ms A0 ks ts i o T k) {d : Nat} {e : Prop × AV} (hp : k.pair = some (d, e)) : o.dst = some d := by
  cases k with
  | fp d' p => simp only [CK.pair, Option.some.injEq, Prod.mk.injEq] at hp; obtain ⟨rfl, _⟩ := hp; exact h.1.1.1
  | ff d' v B => simp only [CK.pair, Option.some.injEq, Prod.mk.injEq] at hp; obtain ⟨rfl, _⟩ := hp; exact h.1.1.1
  | ch A' => cases hp
theorem blk_pair {k : CK} {d : Nat} {B : Blk} (h : k.blk = some (d, B)) : ∃ e, k.pair = some (d, e) := by
  cases k with
  | fp d' p => cases h
  | ff d' v B' => simp only [CK.blk, Option.some.injEq, Prod.mk.injEq] at h; obtain ⟨rfl, _⟩ := h; exact ⟨_, rfl⟩
  | ch A' => cases h
theorem tS_snoc (A : St) (a : List CK) (k : CK) : tS A (a ++ [k]) = k.step (tS A a) := by simp [tS, List.foldl_append]
theorem take_succ' {α : Type _} {ks : List α} {i : Nat} {k : α} (h : ks[i]? = some k) : ks.take (i + 1) = ks.take i ++ [k] := by
  rw [List.take_add_one, h]; rfl
variable (hok : orderOkS l ms tss = true) (hnd : ∀ (j j' : Nat) (o o' : Oper) (d : Nat), l[j]? = some o → l[j']? = some o' → o.dst = some d → o'.dst = some d → j = j') (hA0 : A0.n = n) (hkl : ks.length = l.length)
  (hv : ∀ (i : Nat) (o : Oper) (k : CK), l[i]? = some o → ks[i]? = some k → StepC P n l ms A0 ks (tss.getD i []) i o (tS A0 (ks.take i)) k)
include hA0 hkl hv
theorem both_at {i : Nat} (hi : i < l.length) : ∃ o k, l[i]? = some o ∧ ks[i]? = some k ∧ StepC P n l ms A0 ks (tss.getD i []) i o (tS A0 (ks.take i)) k := by
  have h1 : l[i]? = some l[i] := List.getElem?_eq_getElem hi
  have h2 : ks[i]? = some (ks[i]'(by omega)) := List.getElem?_eq_getElem _
  exact ⟨_, _, h1, h2, hv i _ _ h1 h2⟩
theorem tn : ∀ i, i ≤ l.length → (tS A0 (ks.take i)).n = n
  | 0, _ => by simpa [tS] using hA0
  | i + 1, hi => by
    obtain ⟨o, k, h1, h2, h3⟩ := both_at hA0 hkl hv (show i < l.length by omega)
    have ih := tn i (by omega)
    rw [take_succ' h2, tS_snoc]
    cases k with
    | fp d p => exact ih
    | ff d v B => exact ih
    | ch A' => exact h3.hn
theorem pv_back {t : Nat} {q : Prop} {p : PV} {a : Nat} : ∀ b, a ≤ b → b ≤ l.length → (∀ (j : Nat) (o : Oper), a ≤ j → j < b → l[j]? = some o → o.dst ≠ some t) → (lk (tS A0 (ks.take b)).env t = some (q, .pv p) ↔ lk (tS A0 (ks.take a)).env t = some (q, .pv p)) := by
  intro b
  induction b with
  | zero => intro h1 _ _; obtain rfl : a = 0 := by omega
            exact Iff.rfl
  | succ b ih =>
    intro h1 h2 h3
    by_cases e : a = b + 1
    · subst e; exact Iff.rfl
    · obtain ⟨o, k, q1, q2, q3⟩ := both_at hA0 hkl hv (show b < l.length by omega)
      rw [← ih (by omega) (by omega) fun j o h4 h5 => h3 j o h4 (by omega), take_succ' q2, tS_snoc]
      have hd := h3 b o (by omega) (by omega) q1
      cases k with
      | fp d p' =>
        have : o.dst = some d := stepC_dst q3 rfl
        rw [this] at hd
        show lk ((d, _) :: _) t = _ ↔ _
        rw [lk_cons, if_neg fun e => hd (by rw [e])]
      | ff d v B =>
        have : o.dst = some d := stepC_dst q3 rfl
        rw [this] at hd
        show lk ((d, _) :: _) t = _ ↔ _
        rw [lk_cons, if_neg fun e => hd (by rw [e])]
      | ch A' => exact q3.keep t q p hd
omit hA0 in
theorem lk_xs {β : Type _} {f : CK → Option (Nat × β)} (hfd : ∀ k d e, f k = some (d, e) → ∃ e', k.pair = some (d, e')) {L : Nat → Bool} {b j : Nat} {k : CK} {t : Nat} {e : β} (hnd : ∀ (j j' : Nat) (o o' : Oper) (d : Nat), l[j]? = some o → l[j']? = some o' → o.dst = some d → o'.dst = some d → j = j') (hb : b ≤ j) (hk : ks[j]? = some k) (hL : L j = true) (hp : f k = some (t, e)) : lk (xs f L b (ks.drop b)) t = some e := by
  have hm := mem_xs (f := f) (L := L) (ks.drop b) b (j - b) k (by rw [List.getElem?_drop, show b + (j - b) = j by omega]; exact hk) (by rw [show b + (j - b) = j by omega]; exact hL) hp
  have hjl : j < l.length := by have := (List.getElem?_eq_some_iff.1 hk).1; omega
  have hoj : l[j]? = some l[j] := List.getElem?_eq_getElem hjl
  cases hx : lk (xs f L b (ks.drop b)) t with
  | none =>
    exfalso
    have : ∀ (m : List (Nat × β)), (t, e) ∈ m → lk m t ≠ none := by
      intro m
      induction m with
      | nil => intro h; cases h
      | cons y r ih =>
        intro h
        obtain ⟨k', x'⟩ := y
        rw [lk_cons]
        split
        · simp
        · rename_i hne
          rcases List.mem_cons.1 h with h | h
          · injection h with h1 h2; exact absurd h1.symm hne
          · exact ih h
    exact this _ hm hx
  | some e2 =>
    obtain ⟨j2, k2, g1, g2, g3⟩ := xs_mem _ _ (lk_mem hx)
    rw [List.getElem?_drop] at g1
    have hj2 : b + j2 < l.length := by have := (List.getElem?_eq_some_iff.1 g1).1; omega
    have ho2 : l[b + j2]? = some l[b + j2] := List.getElem?_eq_getElem hj2
    obtain ⟨e3, p3⟩ := hfd _ _ _ hp
    obtain ⟨e4, p4⟩ := hfd _ _ _ g3
    have := hnd j (b + j2) _ _ t hoj ho2 (stepC_dst (hv j _ k hoj hk) p3) (stepC_dst (hv _ _ k2 ho2 g1) p4)
    rw [← this, hk] at g1
    obtain rfl := Option.some.inj g1
    rw [hp] at g3
    injection g3 with g3
    injection g3 with _ g3
    rw [g3]
omit hA0 in
theorem xs_none {β : Type _} {f : CK → Option (Nat × β)} (hfd : ∀ k d e, f k = some (d, e) → ∃ e', k.pair = some (d, e')) {L : Nat → Bool} {b t : Nat} (h : ∀ (j : Nat) (o : Oper), b ≤ j → l[j]? = some o → o.dst = some t → L j = false) : lk (xs f L b (ks.drop b)) t = none := by
  cases hx : lk (xs f L b (ks.drop b)) t with
  | none => rfl
  | some e2 =>
    exfalso
    obtain ⟨j2, k2, g1, g2, g3⟩ := xs_mem _ _ (lk_mem hx)
    rw [List.getElem?_drop] at g1
    have hj2 : b + j2 < l.length := by have := (List.getElem?_eq_some_iff.1 g1).1; omega
    have ho2 : l[b + j2]? = some l[b + j2] := List.getElem?_eq_getElem hj2
    obtain ⟨e4, p4⟩ := hfd _ _ _ g3
    have := h (b + j2) _ (by omega) ho2 (stepC_dst (hv _ _ k2 ho2 g1) p4)
    rw [this] at g2; cases g2
omit hA0 in
/-- one more has come -/
theorem xs_upd {β : Type _} {f : CK → Option (Nat × β)} (hfd : ∀ k d e, f k = some (d, e) → ∃ e', k.pair = some (d, e')) (hnd : ∀ (j j' : Nat) (o o' : Oper) (d : Nat), l[j]? = some o → l[j']? = some o' → o.dst = some d → o'.dst = some d → j = j') {L L' : Nat → Bool} {b i : Nat} {k : CK} (hb : b ≤ i) (hk : ks[i]? = some k) (hLi : L i = false) (hL'i : L' i = true) (hne : ∀ j, j ≠ i → L' j = L j) (t : Nat) :
    lk (xs f L' b (ks.drop b)) t = lk ((f k).toList ++ xs f L b (ks.drop b)) t := by
  have hil : i < l.length := by have := (List.getElem?_eq_some_iff.1 hk).1; omega
  have hoi : l[i]? = some l[i] := List.getElem?_eq_getElem hil
  cases hx : lk (xs f L' b (ks.drop b)) t with
  | some e =>
    obtain ⟨j, k2, g1, g2, g3⟩ := xs_mem _ _ (lk_mem hx)
    rw [List.getElem?_drop] at g1
    have hj2 : b + j < l.length := by have := (List.getElem?_eq_some_iff.1 g1).1; omega
    have ho2 : l[b + j]? = some l[b + j] := List.getElem?_eq_getElem hj2
    by_cases hji : b + j = i
    · rw [hji, hk] at g1
      obtain rfl := Option.some.inj g1
      rw [g3]; show _ = lk ((t, e) :: _) t; rw [lk_cons, if_pos rfl]
    · rw [hne _ hji] at g2
      have h1 := lk_xs hkl hv hfd hnd (show b ≤ b + j by omega) g1 g2 g3
      rw [lk_cat]
      cases hf : f k with
      | none => simp [lk, h1]
      | some y =>
        obtain ⟨d, e'⟩ := y
        have hdt : d ≠ t := fun e1 => by
          subst e1
          obtain ⟨e3, p3⟩ := hfd _ _ _ hf
          obtain ⟨e4, p4⟩ := hfd _ _ _ g3
          exact hji (hnd _ _ _ _ d ho2 hoi (stepC_dst (hv _ _ k2 ho2 g1) p4) (stepC_dst (hv _ _ k hoi hk) p3))
        simp [lk_cons, hdt, lk, h1]
  | none =>
    rw [lk_cat]
    have h0 : lk (xs f L b (ks.drop b)) t = none := by
      cases hy : lk (xs f L b (ks.drop b)) t with
      | none => rfl
      | some e =>
        obtain ⟨j, k2, g1, g2, g3⟩ := xs_mem _ _ (lk_mem hy)
        rw [List.getElem?_drop] at g1
        have hji : b + j ≠ i := fun e1 => by rw [e1, hLi] at g2; cases g2
        rw [← hne _ hji] at g2
        rw [lk_xs hkl hv hfd hnd (show b ≤ b + j by omega) g1 g2 g3] at hx; cases hx
    cases hf : f k with
    | none => simp [lk, h0]
    | some y =>
      obtain ⟨d, e'⟩ := y
      have hdt : d ≠ t := fun e1 => by
        subst e1
        rw [lk_xs hkl hv hfd hnd hb hk hL'i hf] at hx; cases hx
      simp [lk_cons, hdt, lk, h0]
omit hA0 hkl hv in
theorem pair_fd : ∀ (k : CK) (d : Nat) (e : Prop × AV), k.pair = some (d, e) → ∃ e', k.pair = some (d, e') := fun k d e h => ⟨e, h⟩
omit hA0 hkl hv in
theorem blk_fd : ∀ (k : CK) (d : Nat) (e : Blk), k.blk = some (d, e) → ∃ e', k.pair = some (d, e') := fun k d e h => blk_pair h
theorem reads (hok : orderOkS l ms tss = true) (hnd : ∀ (j j' : Nat) (o o' : Oper) (d : Nat), l[j]? = some o → l[j']? = some o' → o.dst = some d → o'.dst = some d → j = j') {D : Nat → Bool} (hcl : Closed l D) {b i : Nat} {o : Oper} (hi : l[i]? = some o) (hbi : b ≤ i) (hD : D i = false) (hpre : ∀ j, j < b → D j = true) (hrd : ∀ j ∈ deps o, D j = true)
    (hpv : ∀ t e, lk (only (tss.getD i []) (tS A0 (ks.take i)).env) t = some e → e.2.isPv = true) (hfr : ∀ t ∈ tss.getD i [], ∀ (j : Nat) (o' : Oper) (k : CK), l[j]? = some o' → o'.dst = some t → ks[j]? = some k → k.free = true) :
    ∀ t e, lk (only (tss.getD i []) (tS A0 (ks.take i)).env) t = some e → lk (xs CK.pair D b (ks.drop b) ++ (tS A0 (ks.take b)).env) t = some e := by
  intro t e ht
  have hp := hpv t e ht
  obtain ⟨hts, hT⟩ := lk_only ht
  obtain ⟨q, v⟩ := e
  have hil := (List.getElem?_eq_some_iff.1 hi).1
  obtain ⟨_, _, hlooks, hord⟩ := orderOkS_at hok hi
  cases v with
  | pv p =>
    -- where nobody has written the slot since b
    have still : (∀ (j : Nat) (o' : Oper), b ≤ j → l[j]? = some o' → o'.dst = some t → i ≤ j ∧ D j = false) → lk (xs CK.pair D b (ks.drop b) ++ (tS A0 (ks.take b)).env) t = some (q, .pv p) := fun h => by
      rw [cat_r (xs_none hkl hv pair_fd fun j o' h1 h2 h3 => (h j o' h1 h2 h3).2)]
      exact (pv_back hA0 hkl hv i hbi (by omega) fun j o' h1 h2 h3 h4 => by have := (h j o' h1 h3 h4).1; omega).1 hT
    by_cases hw : ∃ (j : Nat) (o' : Oper), l[j]? = some o' ∧ o'.dst = some t
    case neg => exact still fun j o' h1 h2 h3 => absurd ⟨j, o', h2, h3⟩ hw
    obtain ⟨j, o', hj, hjt⟩ := hw
    have uni : ∀ (j' : Nat) (o2 : Oper), l[j']? = some o2 → o2.dst = some t → j' = j := fun j' o2 h1 h2 => hnd j' j o2 o' t h1 hj h2 hjt
    have hlook : t ∈ looks l.toArray o := by
      rcases hlooks t hts with h | h
      · exact h
      · exact absurd hjt (h j o' hj)
    by_cases hji : i ≤ j
    · have hDj : D j = false := by
        by_cases e : j = i
        · rw [e]; exact hD
        · cases hb : D j with
          | false => rfl
          | true =>
            exfalso
            have hc : clash l.toArray o o' = true := by
              unfold clash
              rw [hjt]
              have : (looks l.toArray o).any (Nat.beq t) = true := List.any_eq_true.2 ⟨t, hlook, Nat.beq_refl _⟩
              simp [this]
            have h1 := (orderOkS_at hok hj).2.2.2 i o (by omega) hi hc
            have := closed_ancS hok hcl j _ hj (hcl j _ hj hb) i h1
            rw [hD] at this; cases this
      exact still fun j' o2 h1 h2 h3 => by rw [uni j' o2 h2 h3]; exact ⟨hji, hDj⟩
    · have hji : j < i := by omega
      have hDj : D j = true := by
        have hc : clash l.toArray o' o = true := by
          unfold clash
          rw [hjt]
          have : (looks l.toArray o).any (Nat.beq t) = true := List.any_eq_true.2 ⟨t, hlook, Nat.beq_refl _⟩
          simp [this]
        exact closed_ancS hok hcl i o hi hrd j (hord j _ hji hj hc)
      by_cases hjb : j < b
      · exact still fun j' o2 h1 h2 h3 => by have := uni j' o2 h2 h3; omega
      · have hjl := (List.getElem?_eq_some_iff.1 hj).1
        have hkj : ks[j]? = some (ks[j]'(by omega)) := List.getElem?_eq_getElem _
        generalize (ks[j]'(by omega)) = k at hkj
        have hfree := hfr t hts j o' k hj hjt hkj
        have h1 := (pv_back hA0 hkl hv i (show j + 1 ≤ i by omega) (by omega) fun j' o2 g1 g2 g3 g4 => by have := uni j' o2 g3 g4; omega).1 hT
        rw [take_succ' hkj, tS_snoc] at h1
        have hst := hv j o' k hj hkj
        have hpair : k.pair = some (t, (q, .pv p)) := by
          cases k with
          | fp d p' =>
            have hd : o'.dst = some d := stepC_dst hst rfl
            rw [hjt] at hd
            obtain rfl := Option.some.inj hd
            have h1 : lk ((t, ((True : Prop), AV.pv p')) :: _) t = some (q, .pv p) := h1
            rw [lk_cons, if_pos rfl] at h1
            rw [CK.pair, Option.some.inj h1]
          | ff d v B =>
            have hd : o'.dst = some d := stepC_dst hst rfl
            rw [hjt] at hd
            obtain rfl := Option.some.inj hd
            have h1 : lk ((t, ((True : Prop), v)) :: _) t = some (q, .pv p) := h1
            rw [lk_cons, if_pos rfl] at h1
            rw [CK.pair, Option.some.inj h1]
          | ch A' => cases hfree
        exact cat_l (lk_xs hkl hv pair_fd hnd (by omega) hkj hDj hpair)
  | _ => cases hp
theorem blk_none {i : Nat} {o : Oper} {d : Nat} {v : AV} {B : Blk} (hnd : ∀ (j j' : Nat) (o o' : Oper) (d : Nat), l[j]? = some o → l[j']? = some o' → o.dst = some d → o'.dst = some d → j = j') (hi : l[i]? = some o) (hk : ks[i]? = some (.ff d v B)) : ∀ b, b ≤ i → lk (tS A0 (ks.take b)).blks d = none
  | 0, _ => (hv i o _ hi hk).1.1.2.2
  | b + 1, hb => by
    have hil := (List.getElem?_eq_some_iff.1 hi).1
    obtain ⟨o2, k2, q1, q2, q3⟩ := both_at hA0 hkl hv (show b < l.length by omega)
    have ih := blk_none hnd hi hk b (by omega)
    rw [take_succ' q2, tS_snoc]
    cases k2 with
    | fp d' p => exact ih
    | ff d' v' B' =>
      show lk ((d', B') :: _) d = none
      rw [lk_cons, if_neg ?_]
      · exact ih
      · intro e
        subst e
        have := hnd b i o2 o d' q1 hi (stepC_dst q3 rfl) (stepC_dst (hv i o _ hi hk) rfl)
        omega
    | ch A' => exact (q3.names i _ (by omega) hk d B rfl).1.2
theorem lexC (hok : orderOkS l ms tss = true) (hnd : ∀ (j j' : Nat) (o o' : Oper) (d : Nat), l[j]? = some o → l[j']? = some o' → o.dst = some d → o'.dst = some d → j = j') {Φ0 : Frz} {Q' : Exit → Act → World → Prop}
    (hq : ∀ Φ' β' a' w', Sat G Φ' β' (tS A0 ks) a' w' → Φ0.le Φ' → Q' .normal a' w') :
    ∀ (fuel : Nat) (L : Array Bool) (Φ : Frz) (β : Own) (a : Act) (w : World) (b : Nat), fuel = un (fun j => L.getD j true) l.length → L.size = l.length → Closed l (fun j => L.getD j false) → Φ0.le Φ → b ≤ l.length → (∀ j, j < b → L.getD j false = true) → (∀ (j : Nat) (k : CK), b ≤ j → ks[j]? = some k → L.getD j false = true → k.free = true) →
      Sat G Φ β (St.mk n (xs CK.pair (fun j => L.getD j false) b (ks.drop b) ++ (tS A0 (ks.take b)).env) (xs CK.blk (fun j => L.getD j false) b (ks.drop b) ++ (tS A0 (ks.take b)).blks)) a w → wpAny P .any l.toArray Q' fuel L a w := by
  intro fuel
  induction fuel with
  | zero =>
    intro L Φ β a w b hf hs hcl hle hb hpre hfree hsat
    have hall := un_zero _ hf.symm
    have hallf : ∀ j, j < l.length → L.getD j false = true := fun j hj => by
      have := hall j hj
      rw [Array.getD_eq_getD_getElem?, Array.getElem?_eq_getElem (by omega)] at this ⊢; exact this
    refine ⟨List.eq_nil_iff_forall_not_mem.2 fun i hi => ?_, hq Φ β a w ?_ hle⟩
    · obtain ⟨o, h1, h2, _⟩ := mem_ready' hi
      have := hall i (List.getElem?_eq_some_iff.1 h1).1
      rw [h2] at this; cases this
    · have e : tS A0 ks = tS (tS A0 (ks.take b)) (ks.drop b) := by
        conv => lhs; rw [← List.take_append_drop b ks]
        unfold tS; rw [List.foldl_append]
      rw [e, tS_free _ _ b fun k hk => ?_, tn hA0 hkl hv b hb]
      · rw [← xs_congr (L := fun j => L.getD j false) (ks.drop b) b fun j h1 h2 => hallf j (by rw [List.length_drop] at h2; omega), ← xs_congr (L := fun j => L.getD j false) (ks.drop b) b fun j h1 h2 => hallf j (by rw [List.length_drop] at h2; omega)]
        exact hsat
      · obtain ⟨j, hj, rfl⟩ := List.getElem_of_mem hk
        rw [List.length_drop] at hj
        exact hfree (b + j) _ (by omega) (by rw [List.getElem_drop]; exact List.getElem?_eq_getElem _) (hallf _ (by omega))
  | succ fuel ih =>
    intro L Φ β a w b hf hs hcl hle hb hpre hfree hsat
    have hLf : ∀ j, j < l.length → L.getD j false = L.getD j true := fun j hj => by
      rw [Array.getD_eq_getD_getElem?, Array.getD_eq_getD_getElem?, Array.getElem?_eq_getElem (by omega)]; rfl
    refine ⟨fun hr => ?_, fun i hi => ?_⟩
    · exfalso
      have hno : ∀ y, y < l.length → L.getD y true = true := by
        intro y
        induction y using Nat.strongRecOn with
        | _ y ihy =>
          intro hy
          cases hbb : L.getD y true with
          | true => rfl
          | false =>
            exfalso
            have hmem : y ∈ Region.ready .any l.toArray L := ready_mk (o := l[y]) (List.getElem?_eq_getElem _) hbb (fun j hj => by
              have := (orderOkS_at hok (List.getElem?_eq_getElem hy)).1 j hj
              rw [hLf j (by omega)]; exact ihy j this (by omega))
            rw [hr] at hmem; cases hmem
      rw [un_congr (L' := fun _ => true) _ (fun j hj => hno j hj)] at hf
      have : ∀ k, un (fun _ => true) k = 0 := fun k => by induction k with | zero => rfl | succ k ihk => rw [un, ihk]; rfl
      rw [this] at hf; omega
    · obtain ⟨o, h1, h2, h3⟩ := mem_ready' hi
      have hil := (List.getElem?_eq_some_iff.1 h1).1
      have hLi : L.getD i false = false := by rw [hLf i hil]; exact h2
      have hbi : b ≤ i := by
        rcases Nat.lt_or_ge i b with h | h
        · rw [hpre i h] at hLi; cases hLi
        · exact h
      obtain ⟨o2, k, q1, hk, hst⟩ := both_at hA0 hkl hv hil
      rw [h1] at q1
      obtain rfl := Option.some.inj q1
      have hne : ∀ j, j ≠ i → ∀ b, (L.setIfInBounds i true).getD j b = L.getD j b := fun j hj b => getD_set_ne b (Ne.symm hj)
      have heq : ∀ b, (L.setIfInBounds i true).getD i b = true := fun b => by rw [Array.getD_eq_getD_getElem?, Array.getElem?_setIfInBounds_self_of_lt (by omega)]; rfl
      have hcl' : Closed l (fun j => (L.setIfInBounds i true).getD j false) := fun y' o' hy' hL' j hj => by
        by_cases e1 : j = i
        · subst e1; exact heq false
        · show (L.setIfInBounds i true).getD j false = true
          rw [hne j e1]
          by_cases e2 : y' = i
          · subst e2
            rw [h1] at hy'
            obtain rfl := Option.some.inj hy'
            exact h3 j hj
          · have hL'' : L.getD y' false = true := by rw [← hne y' e2 false]; exact hL'
            exact hcl y' o' hy' hL'' j hj
      have hfu : fuel = un (fun j => (L.setIfInBounds i true).getD j true) l.length := by
        have := un_set (L := fun j => L.getD j true) (L' := fun j => (L.setIfInBounds i true).getD j true) (i := i) h2 (heq true) (fun j hj => hne j hj true) l.length hil
        omega
      have hio : l.toArray[i]? = some o := by simpa using h1
      have wanted : o.guard = none → Region.wanted o (yielded l.toArray a.tmps) = true := fun hg => by
        have hnil : Sat G Φ β (St.mk n [] []) a w := hsat.subB (fun k C h => by simp [lk] at h) (fun t q v h => by simp [lk] at h)
        exact ((GOk.none hg : GOk (St.mk n [] []) l.toArray o True) G Φ β a w hnil).2 trivial
      unfold wpOp
      simp only [hio]
      -- a free one
      have freeNext : ∀ (Φ' : Frz) (β' : Own) (a' : Act) (w' : World), k.free = true → Φ.le Φ' → Sat G Φ' β' (St.mk n (k.pair.toList ++ (xs CK.pair (fun j => L.getD j false) b (ks.drop b) ++ (tS A0 (ks.take b)).env)) (k.blk.toList ++ (xs CK.blk (fun j => L.getD j false) b (ks.drop b) ++ (tS A0 (ks.take b)).blks))) a' w' →
          wpAny P .any l.toArray Q' fuel (L.setIfInBounds i true) a' w' := fun Φ' β' a' w' hfr hle' hs' => by
        have cp := fun t => xs_upd hkl hv pair_fd hnd (L := fun j => L.getD j false) (L' := fun j => (L.setIfInBounds i true).getD j false) hbi hk hLi (heq false) (fun j hj => hne j hj false) t
        have cb := fun t => xs_upd hkl hv blk_fd hnd (L := fun j => L.getD j false) (L' := fun j => (L.setIfInBounds i true).getD j false) hbi hk hLi (heq false) (fun j hj => hne j hj false) t
        have eb : ∀ t, lk (xs CK.blk (fun j => (L.setIfInBounds i true).getD j false) b (ks.drop b) ++ (tS A0 (ks.take b)).blks) t = lk (k.blk.toList ++ (xs CK.blk (fun j => L.getD j false) b (ks.drop b) ++ (tS A0 (ks.take b)).blks)) t := fun t => by
          rw [lk_cat, cb t, ← List.append_assoc, ← lk_cat]
        have ep : ∀ t, lk (xs CK.pair (fun j => (L.setIfInBounds i true).getD j false) b (ks.drop b) ++ (tS A0 (ks.take b)).env) t = lk (k.pair.toList ++ (xs CK.pair (fun j => L.getD j false) b (ks.drop b) ++ (tS A0 (ks.take b)).env)) t := fun t => by
          rw [lk_cat, cp t, ← List.append_assoc, ← lk_cat]
        refine ih _ Φ' β' a' w' b hfu (by simpa using hs) hcl' (Frz.le_trans hle hle') hb (fun j hj => ?_) (fun j k' hj hk' hL' => ?_) (hs'.subB (fun k C h => by rw [← eb]; exact h) fun t q v h => ⟨by rw [← ep]; exact h, fun k _ => eb k⟩)
        · rw [hne j (by omega)]; exact hpre j hj
        · by_cases e : j = i
          · subst e; rw [hk] at hk'; obtain rfl := Option.some.inj hk'; exact hfr
          · rw [hne j e] at hL'; exact hfree j k' hj hk' hL'
      cases k with
      | fp d p =>
        obtain ⟨⟨⟨g1, g2, g3⟩, g4⟩, g5, g6⟩ := hst
        have rd := reads hA0 hkl hv hok hnd hcl h1 hbi hLi hpre h3 g5 g6
        have hsub : Sat G Φ β (St.mk n (only (tss.getD i []) (tS A0 (ks.take i)).env) []) a w := hsat.subB (fun k C h => by simp [lk] at h) fun t q v h => ⟨rd t _ h, fun k hk => by have := isPv_ment (g5 t _ h) k; simp only at this; rw [this] at hk; cases hk⟩
        rw [if_pos (wanted g2)]
        refine .inl (Oper.wp_mono' (g4 G Φ β a w hsub trivial) (fun a' w' ⟨x, Φ', ha, hvv, hle', heq', hf', hb'⟩ => ?_) (fun _ _ _ h => h.elim))
        subst ha
        rw [g1]
        exact freeNext Φ' β _ w' rfl hle' (hsat.set hle' heq' hf' hb' g3 (fun _ => hvv) (fun hx => (hx trivial).elim))
      | ff d v B =>
        obtain ⟨⟨⟨g1, g2, g3⟩, g7, g4⟩, g5, g6⟩ := hst
        have rd := reads hA0 hkl hv hok hnd hcl h1 hbi hLi hpre h3 g5 g6
        rw [if_pos (wanted g2)]
        have hfr : lk (xs CK.blk (fun j => L.getD j false) b (ks.drop b) ++ (tS A0 (ks.take b)).blks) d = none := by
          rw [cat_r (xs_none hkl hv blk_fd fun j o' e1 e2 e3 => ?_)]
          · exact blk_none hA0 hkl hv hnd h1 hk b hbi
          · rw [hnd j i o' o d e2 h1 e3 g1]; exact hLi
        have g4' := g4 G
        unfold FreshV at g4'
        refine .inl (Oper.wp_mono' (g4' _ _ rd hfr Φ β a w hsat) (fun a' w' ⟨Φ', β', hs', hle'⟩ => ?_) (fun _ _ _ h => h.elim))
        exact freeNext Φ' β' a' w' rfl hle' hs'
      | ch A' =>
        have hall : ∀ j, j < i → L.getD j false = true := fun j hj => closed_ancS hok hcl i o h1 h3 j (hst.all j hj)
        rw [if_pos (wanted hst.guard)]
        -- what has come since the last of the row belongs to the state
        have esplit : ks.drop b = (ks.drop b).take (i - b) ++ (CK.ch A' :: ks.drop (i + 1)) := by
          conv => lhs; rw [← List.take_append_drop (i - b) (ks.drop b)]
          congr 1
          rw [List.drop_drop, show b + (i - b) = i by omega]
          exact (List.drop_eq_getElem_cons (by have := (List.getElem?_eq_some_iff.1 hk).1; omega)).trans (by rw [(List.getElem?_eq_some_iff.1 hk).2])
        have hsl : ((ks.drop b).take (i - b)).length = i - b := by rw [List.length_take, List.length_drop]; omega
        have etake : ks.take i = ks.take b ++ (ks.drop b).take (i - b) := by
          rw [← List.take_add, show b + (i - b) = i by omega]
        have hseg : ∀ k ∈ (ks.drop b).take (i - b), k.free = true := fun k hk' => by
          obtain ⟨j, hj, rfl⟩ := List.getElem_of_mem hk'
          rw [hsl] at hj
          rw [List.getElem_take, List.getElem_drop]
          exact hfree (b + j) _ (by omega) (List.getElem?_eq_getElem _) (hall _ (by omega))
        have eT : tS A0 (ks.take i) = St.mk n (xs CK.pair (fun j => L.getD j false) b ((ks.drop b).take (i - b)) ++ (tS A0 (ks.take b)).env) (xs CK.blk (fun j => L.getD j false) b ((ks.drop b).take (i - b)) ++ (tS A0 (ks.take b)).blks) := by
          have e1 : tS A0 (ks.take i) = tS (tS A0 (ks.take b)) ((ks.drop b).take (i - b)) := by
            rw [etake]; unfold tS; rw [List.foldl_append]
          rw [e1, tS_free _ _ b hseg, tn hA0 hkl hv b hb]
          rw [xs_congr (L := fun _ => true) (L' := fun j => L.getD j false) ((ks.drop b).take (i - b)) b fun j e2 e3 => (hall j (by rw [hsl] at e3; omega)).symm, xs_congr (L := fun _ => true) (L' := fun j => L.getD j false) ((ks.drop b).take (i - b)) b fun j e2 e3 => (hall j (by rw [hsl] at e3; omega)).symm]
        have hs2 : Sat G Φ β (St.mk n (xs CK.pair (fun j => L.getD j false) (i + 1) (ks.drop (i + 1)) ++ (tS A0 (ks.take i)).env) (xs CK.blk (fun j => L.getD j false) (i + 1) (ks.drop (i + 1)) ++ (tS A0 (ks.take i)).blks)) a w := by
          rw [eT]
          rw [esplit, xs_app, xs_app, xs, xs, hsl, show b + (i - b) = i by omega] at hsat
          simp only [CK.pair, CK.blk, Option.toList, ite_self, List.append_nil, List.append_assoc] at hsat
          exact hsat
        have later : ∀ {β : Type} {f : CK → Option (Nat × β)} {t : Nat} {e : β}, lk (xs f (fun j => L.getD j false) (i + 1) (ks.drop (i + 1))) t = some e → ∃ j k, i < j ∧ ks[j]? = some k ∧ L.getD j false = true ∧ f k = some (t, e) := fun {β f t e} hx => by
          obtain ⟨j, k, e1, e2, e3⟩ := xs_mem _ _ (lk_mem hx)
          rw [List.getElem?_drop] at e1
          exact ⟨i + 1 + j, k, by omega, e1, e2, e3⟩
        have own : ∀ t e, lk (xs CK.pair (fun j => L.getD j false) (i + 1) (ks.drop (i + 1))) t = some e → ∀ k, e.2.ment k = true → ∃ C, lk (xs CK.blk (fun j => L.getD j false) (i + 1) (ks.drop (i + 1))) k = some C := fun t e hx k' hm => by
          obtain ⟨j, k2, e1, e2, e3, e4⟩ := later hx
          have hjl : j < l.length := by have := (List.getElem?_eq_some_iff.1 e2).1; omega
          have hst2 := hv j _ k2 (List.getElem?_eq_getElem hjl) e2
          cases k2 with
          | fp d p =>
            simp only [CK.pair, Option.some.injEq, Prod.mk.injEq] at e4
            obtain ⟨_, rfl⟩ := e4
            exact absurd hm (by simp [AV.ment])
          | ff d v B =>
            simp only [CK.pair, Option.some.injEq, Prod.mk.injEq] at e4
            obtain ⟨rfl, rfl⟩ := e4
            have := hst2.1.2.1 k' hm
            subst this
            exact ⟨B, lk_xs hkl hv blk_fd hnd (show i + 1 ≤ j by omega) e2 e3 rfl⟩
          | ch A2 => cases e4
        have hTn := tn hA0 hkl hv i (by omega)
        have as1 : Aside (xs CK.pair (fun j => L.getD j false) (i + 1) (ks.drop (i + 1))) (xs CK.blk (fun j => L.getD j false) (i + 1) (ks.drop (i + 1))) (tS A0 (ks.take i)) := ⟨fun t e hx => by
            obtain ⟨j, k2, e1, e2, e3, e4⟩ := later hx
            exact (hst.slots j k2 e1 e2 t e e4).1, fun t e hx => by
            obtain ⟨j, k2, e1, e2, e3, e4⟩ := later hx
            exact (hst.names j k2 e1 e2 t e e4).1.1, fun t e ht k' C hx => by
            obtain ⟨j, k2, e1, e2, e3, e4⟩ := later hx
            exact (hst.names j k2 e1 e2 k' C e4).2.1 t e ht, own⟩
        have as2 : Aside (xs CK.pair (fun j => L.getD j false) (i + 1) (ks.drop (i + 1))) (xs CK.blk (fun j => L.getD j false) (i + 1) (ks.drop (i + 1))) A' := ⟨fun t e hx => by
            obtain ⟨j, k2, e1, e2, e3, e4⟩ := later hx
            exact (hst.slots j k2 e1 e2 t e e4).2.1, fun t e hx => by
            obtain ⟨j, k2, e1, e2, e3, e4⟩ := later hx
            exact (hst.names j k2 e1 e2 t e e4).1.2, fun t e ht k' C hx => by
            obtain ⟨j, k2, e1, e2, e3, e4⟩ := later hx
            exact (hst.names j k2 e1 e2 k' C e4).2.2 t e ht, own⟩
        have hfx := EffOp.frame (G := G) (by rw [hst.hn, hTn]) as1 as2 (fun t e hx => by
          obtain ⟨j, k2, e1, e2, e3, e4⟩ := later hx
          exact (hst.slots j k2 e1 e2 t e e4).2.2) hst.eff
        rw [hTn] at hfx
        refine .inl (Oper.wp_mono' (hfx Φ β a w hs2) (fun a' w' ⟨Φ', β', hs', hle'⟩ => ?_) (fun _ _ _ h => h.elim))
        have eT2 : tS A0 (ks.take (i + 1)) = A' := by rw [take_succ' hk, tS_snoc]; rfl
        refine ih _ Φ' β' a' w' (i + 1) hfu (by simpa using hs) hcl' (Frz.le_trans hle hle') (by omega) (fun j hj => ?_) (fun j k' hj hk' hL' => ?_) ?_
        · by_cases e : j = i
          · subst e; exact heq false
          · rw [hne j e]; exact hall j (by omega)
        · rw [hne j (by omega)] at hL'
          exact hfree j k' (by omega) hk' hL'
        · rw [eT2, xs_congr (L := fun j => (L.setIfInBounds i true).getD j false) (L' := fun j => L.getD j false) (ks.drop (i + 1)) (i + 1) fun j e1 e2 => hne j (by omega) false, xs_congr (L := fun j => (L.setIfInBounds i true).getD j false) (L' := fun j => L.getD j false) (ks.drop (i + 1)) (i + 1) fun j e1 e2 => hne j (by omega) false]
          exact hs'
end
/-- a step of the row -/
structure ChainC (P : Program) (n my i : Nat) (cd : List Nat) (fd : List (Nat × Bool)) (o : Oper) (T A' : St) : Prop where
  guard : o.guard = none
  eff : ∀ G, EffOp P G T o A'
  hn : A'.n = n
  keep : ∀ t q p, o.dst ≠ some t → (lk A'.env t = some (q, .pv p) ↔ lk T.env t = some (q, .pv p))
  all : ∀ j, j < i → my.testBit j = true
  dst : ∀ d, o.dst = some d → d ∈ cd
  slots : ∀ x ∈ fd, lk T.env x.1 = none ∧ lk A'.env x.1 = none ∧ o.dst ≠ some x.1
  names : ∀ x ∈ fd, x.2 = true → (lk T.blks x.1 = none ∧ lk A'.blks x.1 = none) ∧ (∀ t e, lk T.env t = some e → e.2.ment x.1 = false) ∧ ∀ t e, lk A'.env t = some e → e.2.ment x.1 = false
def LexC (P : Program) (n : Nat) (bl0 : List (Nat × Blk)) (cd : List Nat) : List Oper → Nat → List (List Nat) → List Nat → List (Nat × Bool) → St → (St → Prop) → Prop
  | [], _, _, _, _, T, K => K T
  | o :: rest, i, tss, ms, fd, T, K =>
    (∃ d p fd', fd = (d, false) :: fd' ∧ ((o.dst = some d ∧ o.guard = none ∧ d < n) ∧ (∀ G, PureOp P G (St.mk n (only (tss.headD []) T.env) []) o True (.pv p))) ∧ (∀ t e, lk (only (tss.headD []) T.env) t = some e → e.2.isPv = true) ∧ (∀ t ∈ tss.headD [], t ∉ cd) ∧ LexC P n bl0 cd rest (i + 1) tss.tail ms.tail fd' (CK.step T (.fp d p)) K) ∨
    (∃ d v B fd', fd = (d, true) :: fd' ∧ ((o.dst = some d ∧ o.guard = none ∧ lk bl0 d = none) ∧ (∀ k, v.ment k = true → k = d) ∧ ∀ G, FreshV P G n (only (tss.headD []) T.env) o d B v) ∧ (∀ t e, lk (only (tss.headD []) T.env) t = some e → e.2.isPv = true) ∧ (∀ t ∈ tss.headD [], t ∉ cd) ∧ LexC P n bl0 cd rest (i + 1) tss.tail ms.tail fd' (CK.step T (.ff d v B)) K) ∨
    (∃ A', ChainC P n (ms.headD 0) i cd fd o T A' ∧ LexC P n bl0 cd rest (i + 1) tss.tail ms.tail fd A' K)
def StepD (P : Program) (n : Nat) (bl0 : List (Nat × Blk)) (cd : List Nat) (i : Nat) (ts : List Nat) (my : Nat) (later : List CK) (o : Oper) (T : St) : CK → Prop
  | .fp d p => ((o.dst = some d ∧ o.guard = none ∧ d < n) ∧ (∀ G, PureOp P G (St.mk n (only ts T.env) []) o True (.pv p))) ∧ (∀ t e, lk (only ts T.env) t = some e → e.2.isPv = true) ∧ ∀ t ∈ ts, t ∉ cd
  | .ff d v B => ((o.dst = some d ∧ o.guard = none ∧ lk bl0 d = none) ∧ (∀ k, v.ment k = true → k = d) ∧ ∀ G, FreshV P G n (only ts T.env) o d B v) ∧ (∀ t e, lk (only ts T.env) t = some e → e.2.isPv = true) ∧ ∀ t ∈ ts, t ∉ cd
  | .ch A' => ∃ fd, ChainC P n my i cd fd o T A' ∧ ∀ k ∈ later, (∀ d e, k.pair = some (d, e) → ∃ b, (d, b) ∈ fd) ∧ ∀ d B, k.blk = some (d, B) → (d, true) ∈ fd
theorem getD_tail {α : Type _} {l : List α} {a : α} {i : Nat} : l.getD (i + 1) a = l.tail.getD i a := by cases l <;> simp
theorem getD_head {α : Type _} {l : List α} {a : α} : l.getD 0 a = l.headD a := by cases l <;> rfl
theorem LexC.out {P : Program} {n : Nat} {bl0 : List (Nat × Blk)} {cd : List Nat} {K : St → Prop} : ∀ {l : List Oper} {i0 : Nat} {tss : List (List Nat)} {ms : List Nat} {fd : List (Nat × Bool)} {T : St}, LexC P n bl0 cd l i0 tss ms fd T K →
    ∃ ks : List CK, ks.length = l.length ∧ K (tS T ks) ∧ (∀ (j : Nat) (o : Oper) (k : CK), l[j]? = some o → ks[j]? = some k → StepD P n bl0 cd (i0 + j) (tss.getD j []) (ms.getD j 0) (ks.drop (j + 1)) o (tS T (ks.take j)) k) ∧
      ∀ k ∈ ks, (∀ d e, k.pair = some (d, e) → ∃ b, (d, b) ∈ fd) ∧ ∀ d B, k.blk = some (d, B) → (d, true) ∈ fd
  | [], i0, tss, ms, fd, T, h => ⟨[], rfl, by rw [LexC] at h; exact h, fun j o k hj => by simp at hj, fun k hk => by cases hk⟩
  | o :: rest, i0, tss, ms, fd, T, h => by
    rw [LexC] at h
    rcases h with ⟨d, p, fd', h1, h2, h3, h4, h5⟩ | ⟨d, v, B, fd', h1, h2, h3, h4, h5⟩ | ⟨A', h1, h5⟩
    · obtain ⟨ks, g1, g2, g3, g4⟩ := LexC.out h5
      refine ⟨.fp d p :: ks, by simp [g1], g2, fun j o' k' hj hk => ?_, fun k hk => ?_⟩
      · cases j with
        | zero =>
          simp at hj hk; subst hj hk
          rw [getD_head, getD_head]
          exact ⟨h2, h3, h4⟩
        | succ j =>
          rw [getD_tail, getD_tail, List.drop_succ_cons, List.take_succ_cons, show i0 + (j + 1) = i0 + 1 + j by omega]
          exact g3 j o' k' (by simpa using hj) (by simpa using hk)
      · rcases List.mem_cons.1 hk with rfl | hk
        · refine ⟨fun d' e he => ?_, fun d' B he => by cases he⟩
          simp only [CK.pair, Option.some.injEq, Prod.mk.injEq] at he
          exact ⟨false, by rw [h1, ← he.1]; simp⟩
        · refine ⟨fun d' e he => ?_, fun d' B he => by rw [h1]; exact List.mem_cons_of_mem _ ((g4 k hk).2 d' B he)⟩
          obtain ⟨b, hb⟩ := (g4 k hk).1 d' e he
          exact ⟨b, by rw [h1]; exact List.mem_cons_of_mem _ hb⟩
    · obtain ⟨ks, g1, g2, g3, g4⟩ := LexC.out h5
      refine ⟨.ff d v B :: ks, by simp [g1], g2, fun j o' k' hj hk => ?_, fun k hk => ?_⟩
      · cases j with
        | zero =>
          simp at hj hk; subst hj hk
          rw [getD_head, getD_head]
          exact ⟨h2, h3, h4⟩
        | succ j =>
          rw [getD_tail, getD_tail, List.drop_succ_cons, List.take_succ_cons, show i0 + (j + 1) = i0 + 1 + j by omega]
          exact g3 j o' k' (by simpa using hj) (by simpa using hk)
      · rcases List.mem_cons.1 hk with rfl | hk
        · refine ⟨fun d' e he => ?_, fun d' B' he => ?_⟩
          · simp only [CK.pair, Option.some.injEq, Prod.mk.injEq] at he
            exact ⟨true, by rw [h1, ← he.1]; simp⟩
          · simp only [CK.blk, Option.some.injEq, Prod.mk.injEq] at he
            rw [h1, ← he.1]; simp
        · refine ⟨fun d' e he => ?_, fun d' B he => by rw [h1]; exact List.mem_cons_of_mem _ ((g4 k hk).2 d' B he)⟩
          obtain ⟨b, hb⟩ := (g4 k hk).1 d' e he
          exact ⟨b, by rw [h1]; exact List.mem_cons_of_mem _ hb⟩
    · obtain ⟨ks, g1, g2, g3, g4⟩ := LexC.out h5
      refine ⟨.ch A' :: ks, by simp [g1], g2, fun j o' k' hj hk => ?_, fun k hk => ?_⟩
      · cases j with
        | zero =>
          simp at hj hk; subst hj hk
          rw [getD_head, getD_head]
          exact ⟨fd, h1, g4⟩
        | succ j =>
          rw [getD_tail, getD_tail, List.drop_succ_cons, List.take_succ_cons, show i0 + (j + 1) = i0 + 1 + j by omega]
          exact g3 j o' k' (by simpa using hj) (by simpa using hk)
      · rcases List.mem_cons.1 hk with rfl | hk
        · exact ⟨fun d' e he => (nomatch he), fun d' B' he => (nomatch he)⟩
        · exact g4 k hk
def ndDst (l : List Oper) : Bool := ndB (l.filterMap (·.dst))
theorem ndDst_at : ∀ {l : List Oper}, ndDst l = true → ∀ (j j' : Nat) (o o' : Oper) (d : Nat), l[j]? = some o → l[j']? = some o' → o.dst = some d → o'.dst = some d → j = j'
  | [], _, j, j', o, o', d, h1, _, _, _ => by simp at h1
  | x :: l, h, j, j', o, o', d, h1, h2, h3, h4 => by
    have hr : ndDst l = true := by
      unfold ndDst at h ⊢
      rw [List.filterMap_cons] at h
      split at h
      · exact h
      · rw [ndB, Bool.and_eq_true] at h; exact h.2
    have head : ∀ (m : Nat) (o2 : Oper), x.dst = some d → l[m]? = some o2 → o2.dst = some d → False := fun m o2 e1 e2 e3 => by
      unfold ndDst at h
      rw [List.filterMap_cons, e1] at h
      simp only [ndB, Bool.and_eq_true] at h
      have hm : d ∈ l.filterMap (·.dst) := List.mem_filterMap.2 ⟨o2, List.mem_of_getElem? e2, e3⟩
      have := List.all_eq_true.1 h.1 d hm
      simp [Nat.beq_refl] at this
    cases j with
    | zero =>
      cases j' with
      | zero => rfl
      | succ j' =>
        simp at h1; subst h1
        exact (head j' o' h3 (by simpa using h2) h4).elim
    | succ j =>
      cases j' with
      | zero =>
        simp at h2; subst h2
        exact (head j o h4 (by simpa using h1) h3).elim
      | succ j' => rw [ndDst_at hr j j' o o' d (by simpa using h1) (by simpa using h2) h3 h4]
section
variable {P : Program} {G : Ghost} {n : Nat}
theorem W.drawC {id : Nat} {l : List Oper} {env : Env} {bl : List (Nat × Blk)} {Q : Exit → St → Prop} (ms : List Nat) (tss : List (List Nat)) (fd : List (Nat × Bool)) (cd : List Nat) (hm : P.follows .mixedOrders = true) (hk : (orderOkS l ms tss && ndDst l) = true)
    (h : LexC P n bl cd l 0 tss ms fd (St.mk n env bl) (Q .normal)) : W P G (.region id l.toArray true) Q (St.mk n env bl) := fun Φ β a w hs => by
  rw [Bool.and_eq_true] at hk
  obtain ⟨hok, hnd'⟩ := hk
  have hnd := ndDst_at hnd'
  obtain ⟨ks, hkl, hK, hst, _⟩ := LexC.out h
  have hdst : ∀ (j : Nat) (o : Oper) (k : CK), l[j]? = some o → ks[j]? = some k → ∀ d, o.dst = some d → k.free = false → d ∈ cd := fun j o k h1 h2 d h3 h4 => by
    have := hst j o k h1 h2
    cases k with
    | fp d p => cases h4
    | ff d v B => cases h4
    | ch A' => obtain ⟨fd', q, _⟩ := this; exact q.dst d h3
  have hv : ∀ (i : Nat) (o : Oper) (k : CK), l[i]? = some o → ks[i]? = some k → StepC P n l ms (St.mk n env bl) ks (tss.getD i []) i o (tS (St.mk n env bl) (ks.take i)) k := fun i o k h1 h2 => by
    have := hst i o k h1 h2
    rw [Nat.zero_add] at this
    cases k with
    | fp d p =>
      refine ⟨this.1, this.2.1, fun t ht j o' k' h3 h4 h5 => ?_⟩
      cases hf : k'.free with
      | true => rfl
      | false => exact absurd (hdst j o' k' h3 h5 t h4 hf) (this.2.2 t ht)
    | ff d v B =>
      refine ⟨this.1, this.2.1, fun t ht j o' k' h3 h4 h5 => ?_⟩
      cases hf : k'.free with
      | true => rfl
      | false => exact absurd (hdst j o' k' h3 h5 t h4 hf) (this.2.2 t ht)
    | ch A' =>
      obtain ⟨fd', q, hl⟩ := this
      have mem : ∀ (j : Nat) (k : CK), i < j → ks[j]? = some k → k ∈ ks.drop (i + 1) := fun j k h3 h4 => List.mem_of_getElem? (i := j - (i + 1)) (by rw [List.getElem?_drop, show i + 1 + (j - (i + 1)) = j by omega]; exact h4)
      refine ⟨q.guard, q.eff, q.hn, q.keep, q.all, fun j k h3 h4 d e h5 => ?_, fun j k h3 h4 d B h5 => ?_⟩
      · obtain ⟨b, hb⟩ := (hl k (mem j k h3 h4)).1 d e h5
        exact q.slots _ hb
      · exact q.names _ ((hl k (mem j k h3 h4)).2 d B h5) rfl
  refine wp_region_any hm ?_
  have hsz : l.toArray.size = l.length := by simp
  rw [hsz]
  refine lexC rfl hkl hv hok hnd (Φ0 := Φ) (fun Φ' β' a' w' q le => ⟨_, Φ', β', hK, q, le⟩) l.length (Array.replicate l.length false) Φ β a { w with drawn := w.drawn + 1 } 0 ?_ (by simp) (fun y o hy hL => ?_) Φ.le_refl (Nat.zero_le _) (fun j hj => by omega) (fun j k _ _ hL => ?_) ?_
  · have : un (fun j => (Array.replicate l.length false).getD j true) l.length = un (fun j => decide (j < 0)) l.length := un_congr _ fun j hj => by simp [hj]
    rw [this, un_lt _ (Nat.zero_le _)]; omega
  · have : (Array.replicate l.length false).getD y false = true := hL
    rw [Array.getD_eq_getD_getElem?, Array.getElem?_replicate] at this
    split at this <;> simp at this
  · rw [Array.getD_eq_getD_getElem?, Array.getElem?_replicate] at hL
    split at hL <;> simp at hL
  · have hf : ∀ j, (Array.replicate l.length false).getD j false = false := fun j => by
      rw [Array.getD_eq_getD_getElem?, Array.getElem?_replicate]
      split <;> rfl
    have hnone : (fun j => (Array.replicate l.length false).getD j false) = fun _ => false := funext hf
    have e : ∀ {α : Type} (f : CK → Option α) (i : Nat) (ks : List CK), xs f (fun _ => false) i ks = [] := fun {α} f i ks => by
      induction ks generalizing i with
      | nil => rfl
      | cons k r ih => rw [xs, ih]; simp
    rw [hnone, e, e]
    exact ⟨hs.kept.drew, hs.fits, hs.old, hs.siz, hs.dfr, hs.env, hs.blk, hs.vir, hs.inj⟩
def allPv : Env → Bool
  | [] => true
  | (_, (_, v)) :: r => v.isPv && allPv r
theorem allPv_of : ∀ {E : Env}, allPv E = true → ∀ t e, lk E t = some e → e.2.isPv = true
  | (s, (q, v)) :: r, h, t, e, hl => by
    rw [allPv, Bool.and_eq_true] at h
    rw [lk_cons] at hl
    split at hl
    · obtain rfl := Option.some.inj hl; exact h.1
    · exact allPv_of h.2 t e hl
def offL (ts cd : List Nat) : Bool := ts.all fun t => cd.all fun c => !Nat.beq t c
theorem offL_of {ts cd : List Nat} (h : offL ts cd = true) : ∀ t ∈ ts, t ∉ cd := fun t ht hc => by
  have := List.all_eq_true.1 (List.all_eq_true.1 h t ht) t hc
  simp [Nat.beq_refl] at this
def noKey {α : Type _} (t : Nat) : List (Nat × α) → Bool
  | [] => true
  | (k, _) :: r => !Nat.beq k t && noKey t r
theorem noKey_of {α : Type _} {t : Nat} : ∀ {l : List (Nat × α)}, noKey t l = true → lk l t = none
  | [], _ => rfl
  | (k, x) :: r, h => by
    rw [noKey, Bool.and_eq_true] at h
    rw [lk_cons, if_neg (fun e => by subst e; simp [Nat.beq_refl] at h), noKey_of h.2]
theorem noMent_at {d : Nat} {E : Env} (h : noMent d E = true) {t : Nat} {e : Prop × AV} (hl : lk E t = some e) : e.2.ment d = false := by
  rw [noMent_eq] at h
  have := List.all_eq_true.1 h _ (lk_mem hl)
  simpa using this
/-- what comes later is not there yet -/
def clearC (fd : List (Nat × Bool)) (env : Env) (bl : List (Nat × Blk)) (d : Nat) : Bool := fd.all fun x => noKey x.1 env && !Nat.beq d x.1 && (!x.2 || (noKey x.1 bl && noMent x.1 env))
theorem clearC_at {fd : List (Nat × Bool)} {env : Env} {bl : List (Nat × Blk)} {d : Nat} (h : clearC fd env bl d = true) {x : Nat × Bool} (hx : x ∈ fd) : lk env x.1 = none ∧ d ≠ x.1 ∧ (x.2 = true → lk bl x.1 = none ∧ ∀ t e, lk env t = some e → e.2.ment x.1 = false) := by
  have := List.all_eq_true.1 h x hx
  simp only [Bool.and_eq_true, Bool.or_eq_true, Bool.not_eq_true'] at this
  refine ⟨noKey_of this.1.1, fun e => by rw [e, Nat.beq_refl] at this; exact absurd this.1.2 (by simp), fun h2 => ?_⟩
  rw [h2] at this
  have := this.2.resolve_left (by simp)
  exact ⟨noKey_of this.1, fun t e he => noMent_at this.2 he⟩
theorem full_bits {my i : Nat} (h : Nat.beq my (2 ^ i - 1) = true) : ∀ j, j < i → my.testBit j = true := fun j hj => by
  rw [Nat.eq_of_beq_eq_true h, Nat.testBit_two_pow_sub_one]; simpa using hj
variable {bl0 : List (Nat × Blk)} {cd : List Nat} {rest : List Oper} {i my : Nat} {ts : List Nat} {tss : List (List Nat)} {ms : List Nat} {fd : List (Nat × Bool)} {env : Env} {bl : List (Nat × Blk)} {K : St → Prop} {op : Op} {ty : TypeId} {pos : String} {after : Array Edge}
theorem LexC.nil {T : St} (h : K T) : LexC P n bl0 cd [] i tss ms fd T K := by rw [LexC]; exact h
theorem LexC.p {d : Nat} {p : PV} (hp : ∀ G, PureOp P G (St.mk n (only ts env) []) ⟨some d, op, ty, pos, after, none⟩ True (.pv p)) (hn : Nat.blt d n = true) (ha : allPv (only ts env) = true) (ho : offL ts cd = true)
    (h : LexC P n bl0 cd rest (i + 1) tss ms fd (St.mk n ((d, (True, .pv p)) :: env) bl) K) : LexC P n bl0 cd (⟨some d, op, ty, pos, after, none⟩ :: rest) i (ts :: tss) (my :: ms) ((d, false) :: fd) (St.mk n env bl) K := by
  rw [LexC]
  exact .inl ⟨d, p, fd, rfl, ⟨⟨rfl, rfl, blt_lt hn⟩, hp⟩, allPv_of ha, offL_of ho, h⟩
theorem LexC.f {d : Nat} {v : AV} {B : Blk} (hp : ∀ G, FreshV P G n (only ts env) ⟨some d, op, ty, pos, after, none⟩ d B v) (hv : v = .slc d ∨ v = .addr d 0 0) (hb : noKey d bl0 = true) (ha : allPv (only ts env) = true) (ho : offL ts cd = true)
    (h : LexC P n bl0 cd rest (i + 1) tss ms fd (St.mk n ((d, (True, v)) :: env) ((d, B) :: bl)) K) : LexC P n bl0 cd (⟨some d, op, ty, pos, after, none⟩ :: rest) i (ts :: tss) (my :: ms) ((d, true) :: fd) (St.mk n env bl) K := by
  rw [LexC]
  refine .inr (.inl ⟨d, v, B, fd, rfl, ⟨⟨rfl, rfl, noKey_of hb⟩, fun k hk => ?_, hp⟩, allPv_of ha, offL_of ho, h⟩)
  rcases hv with rfl | rfl
  · exact (Nat.eq_of_beq_eq_true hk).symm
  · exact (Nat.eq_of_beq_eq_true hk).symm
theorem memB {d : Nat} {cd : List Nat} (h : cd.any (Nat.beq d) = true) : d ∈ cd := by
  obtain ⟨x, h1, h2⟩ := List.any_eq_true.1 h
  rw [Nat.eq_of_beq_eq_true h2]; exact h1
/-- nothing new but a value -/
theorem EffOp.pure {o : Oper} {d : Nat} {v : AV} (hd : o.dst = some d) (hn : d < n) (h : PureOp P G (St.mk n env bl) o True v) : EffOp P G (St.mk n env bl) o (St.mk n ((d, (True, v)) :: env) bl) := fun Φ β a w hs =>
  Oper.wp_mono' (h Φ β a w hs trivial) (fun a' w' ⟨x, Φ', ha, hvv, hle', heq', hf', hb'⟩ => by
    subst ha
    rw [hd]
    exact ⟨Φ', β, hs.set hle' heq' hf' hb' hn (fun _ => hvv) (fun hx => (hx trivial).elim), hle'⟩) (fun _ _ _ h => h.elim)
theorem LexC.cp {d : Nat} {p : PV} (hp : ∀ G, PureOp P G (St.mk n env bl) ⟨some d, op, ty, pos, after, none⟩ True (.pv p)) (hn : Nat.blt d n = true) (hm : Nat.beq my (2 ^ i - 1) = true) (hc : cd.any (Nat.beq d) = true) (hf : clearC fd env bl d = true)
    (h : LexC P n bl0 cd rest (i + 1) tss ms fd (St.mk n ((d, (True, .pv p)) :: env) bl) K) : LexC P n bl0 cd (⟨some d, op, ty, pos, after, none⟩ :: rest) i (ts :: tss) (my :: ms) fd (St.mk n env bl) K := by
  rw [LexC]
  refine .inr (.inr ⟨_, ⟨rfl, fun G => EffOp.pure rfl (blt_lt hn) (hp G), rfl, fun t q p' ht => ?_, full_bits hm, fun d' hd => by obtain rfl := Option.some.inj hd; exact memB hc, fun x hx => ?_, fun x hx h2 => ?_⟩, h⟩)
  · show lk ((d, _) :: env) t = _ ↔ _
    rw [lk_cons, if_neg fun e => ht (by rw [e])]
  · obtain ⟨g1, g2, g3⟩ := clearC_at hf hx
    refine ⟨g1, ?_, fun e => g2 (Option.some.inj e)⟩
    show lk ((d, _) :: env) x.1 = none
    rw [lk_cons, if_neg g2]; exact g1
  · obtain ⟨g1, g2, g3⟩ := clearC_at hf hx
    obtain ⟨g4, g5⟩ := g3 h2
    refine ⟨⟨g4, g4⟩, g5, fun t e he => ?_⟩
    have he : lk ((d, (True, AV.pv p)) :: env) t = some e := he
    rw [lk_cons] at he
    split at he
    · obtain rfl := Option.some.inj he; rfl
    · exact g5 t e he
theorem lk_fgt_none {m t : Nat} : ∀ {env : Env}, lk env t = none → lk (fgt m env) t = none
  | [], _ => rfl
  | (s, (q, v)) :: r, h => by
    rw [lk_cons] at h
    rw [fgt, lk_cons]
    split at h
    · cases h
    · rename_i e; rw [if_neg e]; exact lk_fgt_none h
theorem lk_frz1_some {n : Nat} {bl : List (Nat × Blk)} {t : Nat} {q : Prop} {v : AV} : ∀ {env : Env}, lk env t = some (q, v) → lk (frz1 n bl env) t = some (q, frzV1 n bl v)
  | [], h => by simp [lk] at h
  | (s, (q0, v0)) :: r, h => by
    rw [lk_cons] at h
    rw [frz1, lk_cons]
    split at h
    · rename_i e
      simp only [Option.some.injEq, Prod.mk.injEq] at h
      rw [if_pos e, h.1, h.2]
    · rename_i e
      rw [if_neg e]
      exact lk_frz1_some h
theorem fgt_pv {m t : Nat} {env : Env} {q : Prop} {p : PV} : lk (fgt m env) t = some (q, .pv p) ↔ lk env t = some (q, .pv p) := by
  constructor
  · intro h
    obtain ⟨v', h1, h2⟩ := lk_fgt m env t q _ h
    cases hb : v'.ment m with
    | true => rw [hb, cond_true] at h2; cases h2
    | false => rw [hb, cond_false] at h2; rw [h2]; exact h1
  · intro h
    have := lk_fgt_some (n := m) h
    exact this
theorem fgt_ment {m k : Nat} {env : Env} (h : ∀ t e, lk env t = some e → e.2.ment k = false) : ∀ t e, lk (fgt m env) t = some e → e.2.ment k = false := fun t e he => by
  obtain ⟨q, v⟩ := e
  obtain ⟨v', h1, h2⟩ := lk_fgt m env t q v he
  have := h t _ h1
  simp only at this ⊢
  rw [h2]
  cases v'.ment m
  · exact this
  · rfl
theorem chain_row {o : Oper} {d m : Nat} {v : AV} {C : List (Nat × Blk)} (ho : o.dst = some d) (hg : o.guard = none) (he : ∀ G, EffOp P G (St.mk n env bl) o (St.mk n ((d, (True, v)) :: fgt d (fgt m env)) C)) (hv : ∀ k, v.ment k = true → k = d) (hm : Nat.beq my (2 ^ i - 1) = true) (hc : cd.any (Nat.beq d) = true) (hf : clearC fd env bl d = true)
    (hC : ∀ x ∈ fd, x.2 = true → lk bl x.1 = none → x.1 ≠ d → lk C x.1 = none) : ChainC P n my i cd fd o (St.mk n env bl) (St.mk n ((d, (True, v)) :: fgt d (fgt m env)) C) := by
  refine ⟨hg, he, rfl, fun t q p ht => ?_, full_bits hm, fun d' hd => by rw [ho] at hd; obtain rfl := Option.some.inj hd; exact memB hc, fun x hx => ?_, fun x hx h2 => ?_⟩
  · show lk ((d, _) :: fgt d (fgt m env)) t = _ ↔ lk env t = _
    rw [lk_cons, if_neg fun e => ht (by rw [ho, e]), fgt_pv, fgt_pv]
  · obtain ⟨g1, g2, g3⟩ := clearC_at hf hx
    refine ⟨g1, ?_, fun e => g2 (by rw [ho] at e; exact Option.some.inj e)⟩
    show lk ((d, _) :: fgt d (fgt m env)) x.1 = none
    rw [lk_cons, if_neg g2]; exact lk_fgt_none (lk_fgt_none g1)
  · obtain ⟨g1, g2, g3⟩ := clearC_at hf hx
    obtain ⟨g4, g5⟩ := g3 h2
    refine ⟨⟨g4, hC x hx h2 g4 (Ne.symm g2)⟩, g5, fun t e he => ?_⟩
    have he : lk ((d, (True, v)) :: fgt d (fgt m env)) t = some e := he
    rw [lk_cons] at he
    split at he
    · obtain rfl := Option.some.inj he
      cases hb : v.ment x.1 with
      | false => rfl
      | true => exact absurd (hv _ hb).symm g2
    · exact fgt_ment (fgt_ment g5) t e he
/-- what is left of the slots, written out -/
def FG (d m : Nat) (l l' : Env) : Prop := fgt d (fgt m l) = l'
theorem FG.nil {d m : Nat} : FG d m [] [] := rfl
theorem FG.keep {d m t : Nat} {q : Prop} {v : AV} {r r' : Env} (h1 : v.ment m = false) (h2 : v.ment d = false) (h : FG d m r r') : FG d m ((t, (q, v)) :: r) ((t, (q, v)) :: r') := by
  have h : fgt d (fgt m r) = r' := h
  show fgt d (fgt m _) = _
  rw [fgt, h1, cond_false, fgt, h2, cond_false, h]
theorem FG.gone {d m t : Nat} {q : Prop} {v : AV} {r r' : Env} (h1 : (v.ment m || v.ment d) = true) (h : FG d m r r') : FG d m ((t, (q, v)) :: r) ((t, (q, .top)) :: r') := by
  have h : fgt d (fgt m r) = r' := h
  show fgt d (fgt m _) = _
  rw [fgt]
  cases hm : v.ment m with
  | true => rw [cond_true, fgt, h]; rfl
  | false =>
    rw [hm, Bool.false_or] at h1
    rw [cond_false, fgt, h1, cond_true, h]
section
variable {T : Nat → Option TI} (hT : TOK P T)
include hT
theorem LexC.a {t e m d : Nat} {x y : Operand} {ti te : TI} {B : Blk} {rows2 : List (List Cell)} (hx : Ev (St.mk n env bl) True x (.slc m)) (hy : Ev (St.mk n env bl) True y (.pv (.one (.sl rows2)))) (ht : T t = some ti) (hk : ti.kind = .slice e) (he : T e = some te) (hl : lk bl m = some B)
    (hzl : te.zero.cells.length = te.sz) (hz : Nat.blt 0 te.sz = true) (hE : B.E = e) (hsz : B.sz = te.sz) (hrows : ∀ r ∈ rows2, r.length = te.sz)
    (hb : (B.rows.length + rows2.length) * te.bytes ≤ 140737488355328 ∧ B.rows.length + rows2.length ≤ 140737488355328) (hn : Nat.blt d n = true) (hm : Nat.beq my (2 ^ i - 1) = true) (hc : cd.any (Nat.beq d) = true) (hf : clearC fd env bl d = true) {E2 : Env} (hF : FG d m env E2)
    (h : LexC P n bl0 cd rest (i + 1) tss ms fd (St.mk n ((d, (True, .slc d)) :: E2) ((d, ⟨e, te.sz, B.rows ++ rows2⟩) :: (m, deadBlk) :: bl)) K) : LexC P n bl0 cd (⟨some d, .call ⟨.builtin .append, #[x, y], #[t, t]⟩, ty, pos, after, none⟩ :: rest) i (ts :: tss) (my :: ms) fd (St.mk n env bl) K := by
  have hF : fgt d (fgt m env) = E2 := hF
  subst hF
  rw [LexC]
  refine .inr (.inr ⟨_, chain_row (m := m) (v := .slc d) rfl rfl (fun G => E_append_data hT rfl rfl (blt_lt hn) ht hk he hzl (blt_lt hz) hx hl hE hsz hy hrows hb.1 hb.2) (fun k hk => (Nat.eq_of_beq_eq_true hk).symm) hm hc hf (fun x hx _ h1 h2 => ?_), h⟩)
  show lk ((d, _) :: (m, deadBlk) :: bl) x.1 = none
  rw [lk_cons, if_neg (Ne.symm h2), lk_cons, if_neg (fun e => by subst e; rw [hl] at h1; cases h1)]
  exact h1
/-- a slice made longer by data, that nobody will change from here on -/
theorem LexC.ad {t e m d : Nat} {x y : Operand} {ti te : TI} {B : Blk} {rows2 : List (List Cell)} (hx : Ev (St.mk n env bl) True x (.slc m)) (hy : Ev (St.mk n env bl) True y (.pv (.one (.sl rows2)))) (ht : T t = some ti) (hk : ti.kind = .slice e) (he : T e = some te) (hl : lk bl m = some B)
    (hzl : te.zero.cells.length = te.sz) (hz : Nat.blt 0 te.sz = true) (hE : B.E = e) (hsz : B.sz = te.sz) (hrows : ∀ r ∈ rows2, r.length = te.sz)
    (hb : (B.rows.length + rows2.length) * te.bytes ≤ 140737488355328 ∧ B.rows.length + rows2.length ≤ 140737488355328) (hn : Nat.blt d n = true) (hm : Nat.beq my (2 ^ i - 1) = true) (hc : cd.any (Nat.beq d) = true) (hf : clearC fd env bl d = true) (hdb : noKey d bl = true) {E2 : Env} (hF : FG d m env E2)
    (h : LexC P n bl0 cd rest (i + 1) tss ms fd (St.mk n ((d, (True, .pv (.one (.sl (B.rows ++ rows2))))) :: E2) ((m, deadBlk) :: bl)) K) : LexC P n bl0 cd (⟨some d, .call ⟨.builtin .append, #[x, y], #[t, t]⟩, ty, pos, after, none⟩ :: rest) i (ts :: tss) (my :: ms) fd (St.mk n env bl) K := by
  have hF : fgt d (fgt m env) = E2 := hF
  subst hF
  have hmd : m ≠ d := fun e => by subst e; rw [noKey_of hdb] at hl; cases hl
  rw [LexC]
  refine .inr (.inr ⟨_, chain_row (m := m) (v := .pv (.one (.sl (B.rows ++ rows2)))) rfl rfl (fun G => ?_) (fun k hk => by cases hk) hm hc hf (fun x hx _ h1 h2 => ?_), h⟩)
  · refine fun Φ β a w hs => Oper.wp_mono' (E_append_data hT rfl rfl (blt_lt hn) ht hk he hzl (blt_lt hz) hx hl hE hsz hy hrows hb.1 hb.2 Φ β a w hs) (fun a' w' ⟨Φ', β', hs', hle⟩ => ?_) (fun _ _ _ h => h)
    have hs' : Sat G Φ' β' (St.mk n ((d, (True, .slc d)) :: fgt d (fgt m env)) ((d, ⟨e, te.sz, B.rows ++ rows2⟩) :: (m, deadBlk) :: bl)) a' w' := hs'
    obtain ⟨Φ2, β2, hle2, hs2⟩ := Le.freeze1 (A := St.mk n ((d, (True, .slc d)) :: fgt d (fgt m env)) ((d, ⟨e, te.sz, B.rows ++ rows2⟩) :: (m, deadBlk) :: bl)) (m := d) (B := ⟨e, te.sz, B.rows ++ rows2⟩) (by rw [lk_cons, if_pos rfl]) G Φ' β' a' w' hs'
    have hbk : ∀ k, lk ((m, deadBlk) :: bl) k = lk (dropB d ((d, (⟨e, te.sz, B.rows ++ rows2⟩ : Blk)) :: (m, deadBlk) :: bl)) k := fun k => by
      rw [lk_dropB]
      by_cases hk : k = d
      · rw [if_pos hk, hk, lk_cons, if_neg hmd, noKey_of hdb]
      · rw [if_neg hk]; conv => rhs; rw [lk_cons, if_neg (Ne.symm hk)]
    refine ⟨Φ2, β2, hs2.subB (fun k C hk => by rw [← hbk]; exact hk) (fun t q v ht => ⟨?_, fun k _ => hbk k⟩), Frz.le_trans hle hle2⟩
    rw [lk_cons] at ht
    split at ht
    · rename_i hdt
      subst hdt
      have := lk_frz1_some (n := d) (bl := (d, (⟨e, te.sz, B.rows ++ rows2⟩ : Blk)) :: (m, deadBlk) :: bl) (env := (d, ((True : Prop), AV.slc d)) :: fgt d (fgt m env)) (t := d) (q := True) (v := .slc d) (by rw [lk_cons, if_pos rfl])
      rw [this]
      rw [← Option.some.inj ht]
      have e2 : frzV1 d ((d, (⟨e, te.sz, B.rows ++ rows2⟩ : Blk)) :: (m, deadBlk) :: bl) (.slc d) = .pv (.one (.sl (B.rows ++ rows2))) := by
        unfold frzV1
        simp [AV.ment, frzV, toPV, lk_cons]
      rw [e2]
    · rename_i hdt
      have := lk_frz1_some (n := d) (bl := (d, (⟨e, te.sz, B.rows ++ rows2⟩ : Blk)) :: (m, deadBlk) :: bl) (env := (d, ((True : Prop), AV.slc d)) :: fgt d (fgt m env)) (t := t) (q := q) (v := v) (by rw [lk_cons, if_neg hdt]; exact ht)
      rw [this]
      have e2 : frzV1 d ((d, (⟨e, te.sz, B.rows ++ rows2⟩ : Blk)) :: (m, deadBlk) :: bl) v = v := by
        unfold frzV1
        obtain ⟨v', _, h2⟩ := lk_fgt d _ t q v ht
        have : v.ment d = false := by
          rw [h2]
          cases hb : v'.ment d
          · exact hb
          · rfl
        rw [this]; rfl
      rw [e2]
  · rw [lk_cons, if_neg (fun e => by subst e; rw [hl] at h1; cases h1)]
    exact h1
/-- a store, when all else has come -/
theorem LexC.s {t m j off : Nat} {x y : Operand} {ti : TI} {B : Blk} {r : List Cell} {q : PV} (hx : Ev (St.mk n env bl) True x (.addr m j off)) (hy : Ev (St.mk n env bl) True y (.pv q)) (ht : T t = some ti) (hl : lk bl m = some B) (hr : B.rows[j]? = some r)
    (hq : q.cells.length = ti.sz) (hfit : Nat.ble (off + ti.sz) r.length = true) (hm : Nat.beq my (2 ^ i - 1) = true)
    (h : LexC P n bl0 cd rest (i + 1) tss ms [] (St.mk n env ((m, { B with rows := B.rows.set j (splice r off q.cells) }) :: bl)) K) : LexC P n bl0 cd (⟨none, .store t x y, ty, pos, after, none⟩ :: rest) i (ts :: tss) (my :: ms) [] (St.mk n env bl) K := by
  rw [LexC]
  refine .inr (.inr ⟨_, ⟨rfl, fun G => E_store hT rfl rfl ht hx hy hl hr hq (Nat.le_of_ble_eq_true hfit), rfl, fun t q p ht => Iff.rfl, full_bits hm, (fun d hd => by cases hd), (fun x hx => by cases hx), (fun x hx => by cases hx)⟩, h⟩)
end
end
attribute [irreducible] LexC FG
end Lf
end
