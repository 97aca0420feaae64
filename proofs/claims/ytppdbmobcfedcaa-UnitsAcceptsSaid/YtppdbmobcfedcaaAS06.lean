/-
  Part 6 of what the proof rests on.
-/
import Derived.Test.YtppdbmobcfedcaaAS05
import Derived.Test.YtppdbmobcfedcaaAS03
import Derived.Test.YtppdbmobcfedcaaAS04
import Derived.Defers
import Derived.Recover
import Derived.OrdersHeld
section
set_option linter.unusedVariables false
set_option linter.unusedSimpArgs false
set_option maxHeartbeats 8000000
set_option linter.unusedSectionVars false
namespace Go.Proofs.Ytppdbmobcfedcaa
open Lf Go
attribute [local irreducible] PureOp EffOp Ev RG W Then InBlock Lf.Fin nth App InitE Pick SubE EvL EvD EvP EvR ResL Lf.Lex SubR SubBR RA RAll EvC FinO FinM ResM
theorem rightE_ok : ∀ (d : Nat) (e : Exp), d ≤ 100 → OkE e → ACalls Try.prog 43 [aE e, cI (d : Int)] (.pv (cB (rightF d e)))
  | 0, .mk op n u s l, _, he => by
    cases he with
    | mk hs hl h => rw [aE_mk, rightF]; exact right00_ok hs hl
  | d + 1, .mk op n u s l, hd, he => by
    cases he with
    | mk hs hl h =>
    have hdb : (d : Int) ≤ 100 := by omega
    have hdc : (((d + 1 : Nat) : Int)) ≠ 0 := by omega
    have ih : ∀ x ∈ l, ACalls Try.prog 43 [aE x, cI (((d + 1 : Nat) : Int) - 1)] (.pv (cB (rightF d x))) := by
      intro x hx
      rw [show (((d + 1 : Nat) : Int) - 1) = (d : Int) by omega]
      exact rightE_ok d x (by omega) (h x hx)
    have cl : ∀ x ∈ l, ACalls Try.prog 61 [aE x, .one (.ptr [.int .i64 ((d + 1 : Nat) : Int)])] (.pv (cB (!rightF d x))) := fun x hx => right1c_ok d x (ih x hx) hdb
    rw [aE_mk, rightF]
    by_cases hlen : (l.length : Int) = opsF op
    case neg =>
      rw [decide_eq_false hlen, Bool.false_and]
      exact rightN_ok (d := d + 1) hs hl hlen (by omega)
    rw [decide_eq_true hlen, Bool.true_and]
    have hE : ∀ b, (decide (s = E0)) = b → decide (s = []) = b := fun b h => h
    have hone : ∀ (a b x : Int), [x].all (inF a b) = inF a b x := fun a b x => by simp
    by_cases h0 : op = 0
    · subst h0
      rw [if_pos rfl]
      cases hA : decide (s = E0) with
      | false =>
        rw [Bool.false_and, Bool.false_and]
        exact right0_a hs hl hlen hdc hdb ih cl hA
      | true =>
        cases hB : [u].all (inF 0 4) with
        | false =>
          rw [← hone 0 4 u, hB, Bool.and_false, Bool.false_and]
          exact right0_b hs hl hlen hdc hdb ih cl hA hB
        | true =>
          have := right0_c hs hl hlen hdc hdb ih cl hA hB (n := n)
          rw [hA, hone, hone] at this
          exact this
    rw [if_neg h0]
    by_cases h1 : op = 1 ∨ op = 2 ∨ op = 3
    · rw [if_pos h1]
      exact right1_ok h1 hs hl hlen hdc hdb ih cl
    rw [if_neg h1]
    by_cases h2 : op = 16 ∨ op = 17 ∨ op = 18
    · rw [if_pos h2]
      have hl1 : l.length = 1 := by
        have : opsF op = 1 := by unfold opsF; rw [if_neg (by omega), if_pos (by omega)]
        omega
      have hpos : 0 < l.length := by omega
      have hall : l.all (rightF d) = rightF d (nth l 0) := by
        match l, hl1 with
        | [x], _ => simp [nth]
      rw [hall]
      have key : ∀ op : Int, (op = 16 → op = 16) := fun _ h => h
      rcases h2 with rfl | rfl | rfl
      · cases hA : (decide (u = 0) && decide (s = E0)) with
        | false =>
          have := right16_a hs hl hlen hdc hdb ih cl hA (n := n)
          rw [Bool.false_and, Bool.false_and]
          exact this
        | true =>
          cases hB : [n].all (inF 1 1000) with
          | false =>
            have := right16_b hs hl hlen hdc hdb ih cl hA hB
            rw [← hone 1 1000 n, hB, Bool.and_false, Bool.false_and]
            exact this
          | true =>
            have := right16_c hs hl hlen hdc hdb ih cl hpos hA hB
            rw [hA, hone] at this
            exact this
      · cases hA : (decide (u = 0) && decide (s = E0)) with
        | false =>
          have := right17_a hs hl hlen hdc hdb ih cl hA (n := n)
          rw [Bool.false_and, Bool.false_and]
          exact this
        | true =>
          cases hB : [n].all (inF 1 1000) with
          | false =>
            have := right17_b hs hl hlen hdc hdb ih cl hA hB
            rw [← hone 1 1000 n, hB, Bool.and_false, Bool.false_and]
            exact this
          | true =>
            have := right17_c hs hl hlen hdc hdb ih cl hpos hA hB
            rw [hA, hone] at this
            exact this
      · cases hA : (decide (u = 0) && decide (s = E0)) with
        | false =>
          have := right18_a hs hl hlen hdc hdb ih cl hA (n := n)
          rw [Bool.false_and, Bool.false_and]
          exact this
        | true =>
          cases hB : [n].all (inF 1 1000) with
          | false =>
            have := right18_b hs hl hlen hdc hdb ih cl hA hB
            rw [← hone 1 1000 n, hB, Bool.and_false, Bool.false_and]
            exact this
          | true =>
            have := right18_c hs hl hlen hdc hdb ih cl hpos hA hB
            rw [hA, hone] at this
            exact this
    rw [if_neg h2]
    have hany : l.all (rightF d) = !(l.any fun x => !rightF d x) := by
      rw [Bool.eq_iff_iff]; simp
    rw [hany]
    cases hC : (decide (n = 0) && decide (u = 0) && decide (s = E0)) with
    | false =>
      rw [Bool.false_and]
      exact rightE_a h0 h1 h2 hs hl hlen hdc hdb ih cl hC
    | true =>
      have := rightE_c h0 h1 h2 hs hl hlen hdc hdb ih cl hC
      rw [hC] at this
      exact this
end Go.Proofs.Ytppdbmobcfedcaa
end
section
set_option linter.unusedVariables false
set_option linter.unusedSimpArgs false
set_option maxHeartbeats 8000000
set_option linter.unusedSectionVars false
namespace Go.Proofs.Ytppdbmobcfedcaa
open Lf Go
attribute [local irreducible] PureOp EffOp Ev RG W Then InBlock Lf.Fin nth App InitE Pick SubE EvL EvD EvP EvR ResL Lf.Lex SubR SubBR RA RAll EvC FinO FinM ResM
section
theorem rightExp_ok (e : Exp) (he : OkE e) : ACalls Try.prog 24 [aE e] (.pv (cB (rightF 12 e))) := by
  have h := rightE_ok 12 e (by omega) he
  refine ACalls.of_W (qs := [cB (rightF 12 e)]) [2] 5 Try.func24 (by kernel_rfl) rfl rfl rfl fun G => ?_
  refine W.initA (hw := ?_)
  repeat' (first | ((first | apply U_); (first | exact QX.B TYok | exact QCd (h)); exact rfl) | refine SX.Box TYok (h := ?_) | refine SC ?_ | (refine W.condA (ht := fun hb => ?_) (hf := fun hb => ?_) <;> (try simp at hb) <;> (try (exfalso; omega))))
  exact Fin.ret ResL.auto
def datesF (x : Ind) : Bool := [x.start, x.due].all (inF 0 200000) && decide (x.start < x.due)
def oneR (x : Ind) : Bool := [x.face].all (inF 1 1000000000000000) && [x.every].all (inF 1 120) && [x.count].all (inF 0 2) && [x.adjust].all (inF 0 3) && [x.record].all (inF 0 100) && [x.rank].all (inF 0 9)
def twoR (x : Ind) : Bool := [x.cap].all (inF 0 10000) && [x.cross].all (inF (-1) 1000000000000000) && [x.notice, x.sink].all (inF 0 1000) && [x.majority, x.fast].all (inF 1 1000)
def hdR (x : Ind) : Bool := datesF x && oneR x && twoR x && nameF x.name && nameF x.issuer && decide ((x.calls.length : Int) ≤ 20) && uniqF x.favour 20
def badL (y : Let) : Bool := !rightF 12 y.body
def badV (y : Cov) : Bool := !rightF 12 y.must || !([y.grace].all (inF 0 1000))
def badC (y : Cl) : Bool := !([y.day].all (inF 0 200000)) || !([y.price].all (inF 0 10000))
def midR (x : Ind) : Bool := uniqF (x.lets.map Let.name) 20 && uniqF (x.covs.map Cov.name) 20 && rightF 12 x.coupon
def rightN (x : Ind) : Bool := hdR x && midR x && (!(x.lets.any badL || x.covs.any badV) && !(x.calls.any badC))
theorem badL_ok (y : Let) (h : OkE y.body) : ACalls Try.prog 37 [aL y] (.pv (cB (badL y))) := by
  have q := rightExp_ok y.body h
  refine ACalls.of_W (qs := [cB (badL y)]) [2] 7 Try.func37 (by kernel_rfl) rfl rfl rfl fun G => ?_
  refine W.initA (hw := ?_)
  repeat' (first | ((first | apply U_); (first | exact QX.B TYok | exact QCd (q)); exact rfl) | refine SX.Box TYok (h := ?_) | refine SC ?_ | (refine W.condA (ht := fun hb => ?_) (hf := fun hb => ?_) <;> (try simp at hb) <;> (try (exfalso; omega))))
  exact Fin.ret ResL.auto
theorem badV_ok (y : Cov) (h : OkE y.must) : ACalls Try.prog 39 [aV y] (.pv (cB (badV y))) := by
  have q := rightExp_ok y.must h
  have q2 := in_ok 0 1000 [y.grace] (by simp)
  unfold badV
  cases hc : rightF 12 y.must with
  | false =>
    rw [hc] at q
    refine ACalls.of_W (qs := [cB true]) [2] 14 Try.func39 (by kernel_rfl) rfl rfl rfl fun G => ?_
    refine W.initA (hw := ?_)
    repeat' (first | ((first | apply U_ | (apply Ug_; exact rfl; exact rfl) | (apply Ugq_; exact rfl; exact rfl)); (first | exact QX.B TYok | exact QCd (q) | exact QCl (q2)); exact rfl) | refine SX.Lit TYok (h := ?_) | refine SX.Box TYok (h := ?_) | refine SC ?_ | (apply RG.gT; exact rfl; exact rfl; (first | assumption | decide)) | (apply RG.gF; exact rfl; exact rfl; (first | assumption | decide | (rw [ne_eq, Bool.not_eq_true]; assumption) | (rw [ne_eq, Bool.not_eq_false]; assumption)); exact rfl) | (refine W.condA (ht := fun hb => ?_) (hf := fun hb => ?_) <;> (try simp at hb) <;> (try (exfalso; omega))))
    exact Fin.ret ResL.auto
  | true =>
    rw [hc] at q
    refine ACalls.of_W (qs := [cB (!true || !([y.grace].all (inF 0 1000)))]) [2] 14 Try.func39 (by kernel_rfl) rfl rfl rfl fun G => ?_
    refine W.initA (hw := ?_)
    repeat' (first | ((first | apply U_ | (apply Ug_; exact rfl; exact rfl) | (apply Ugq_; exact rfl; exact rfl)); (first | exact QX.B TYok | exact QCd (q) | exact QCl (q2)); exact rfl) | refine SX.Lit TYok (h := ?_) | refine SX.Box TYok (h := ?_) | refine SC ?_ | (apply RG.gT; exact rfl; exact rfl; (first | assumption | decide)) | (apply RG.gF; exact rfl; exact rfl; (first | assumption | decide | (rw [ne_eq, Bool.not_eq_true]; assumption) | (rw [ne_eq, Bool.not_eq_false]; assumption)); exact rfl) | (refine W.condA (ht := fun hb => ?_) (hf := fun hb => ?_) <;> (try simp at hb) <;> (try (exfalso; omega))))
    exact Fin.ret ResL.auto
theorem badC_ok (y : Cl) : ACalls Try.prog 41 [aC y] (.pv (cB (badC y))) := by
  have q := in_ok 0 200000 [y.day] (by simp)
  have q2 := in_ok 0 10000 [y.price] (by simp)
  unfold badC
  cases hc : [y.day].all (inF 0 200000) with
  | false =>
    rw [hc] at q
    refine ACalls.of_W (qs := [cB true]) [2] 15 Try.func41 (by kernel_rfl) rfl rfl rfl fun G => ?_
    refine W.initA (hw := ?_)
    repeat' (first | ((first | apply U_ | (apply Ug_; exact rfl; exact rfl) | (apply Ugq_; exact rfl; exact rfl)); (first | exact QX.B TYok | exact QCl (q) | exact QCl (q2)); exact rfl) | refine SX.Lit TYok (h := ?_) | refine SX.Box TYok (h := ?_) | refine SC ?_ | (apply RG.gT; exact rfl; exact rfl; (first | assumption | decide)) | (apply RG.gF; exact rfl; exact rfl; (first | assumption | decide | (rw [ne_eq, Bool.not_eq_true]; assumption) | (rw [ne_eq, Bool.not_eq_false]; assumption)); exact rfl) | (refine W.condA (ht := fun hb => ?_) (hf := fun hb => ?_) <;> (try simp at hb) <;> (try (exfalso; omega))))
    exact Fin.ret ResL.auto
  | true =>
    rw [hc] at q
    refine ACalls.of_W (qs := [cB (!true || !([y.price].all (inF 0 10000)))]) [2] 15 Try.func41 (by kernel_rfl) rfl rfl rfl fun G => ?_
    refine W.initA (hw := ?_)
    repeat' (first | ((first | apply U_ | (apply Ug_; exact rfl; exact rfl) | (apply Ugq_; exact rfl; exact rfl)); (first | exact QX.B TYok | exact QCl (q) | exact QCl (q2)); exact rfl) | refine SX.Lit TYok (h := ?_) | refine SX.Box TYok (h := ?_) | refine SC ?_ | (apply RG.gT; exact rfl; exact rfl; (first | assumption | decide)) | (apply RG.gF; exact rfl; exact rfl; (first | assumption | decide | (rw [ne_eq, Bool.not_eq_true]; assumption) | (rw [ne_eq, Bool.not_eq_false]; assumption)); exact rfl) | (refine W.condA (ht := fun hb => ?_) (hf := fun hb => ?_) <;> (try simp at hb) <;> (try (exfalso; omega))))
    exact Fin.ret ResL.auto
set_option maxRecDepth 20000 in
theorem rightI_ok (x : Ind) (hx : OkN x) (hsm : x.lets.length ≤ 1000 ∧ x.covs.length ≤ 1000) : ACalls Try.prog 16 [aN x] (.pv (cB (rightN x))) := by
  have d1 := in_ok 0 200000 [x.start, x.due] (by simp)
  have e1 := in_ok 1 1000000000000000 [x.face] (by simp)
  have e2 := in_ok 1 120 [x.every] (by simp)
  have e3 := in_ok 0 2 [x.count] (by simp)
  have e4 := in_ok 0 3 [x.adjust] (by simp)
  have e5 := in_ok 0 100 [x.record] (by simp)
  have e6 := in_ok 0 9 [x.rank] (by simp)
  have f1 := in_ok 0 10000 [x.cap] (by simp)
  have f2 := in_ok (-1) 1000000000000000 [x.cross] (by simp)
  have f3 := in_ok 0 1000 [x.notice, x.sink] (by simp)
  have f4 := in_ok 1 1000 [x.majority, x.fast] (by simp)
  have g1 := name_ok x.name hx.name
  have g2 := name_ok x.issuer hx.issuer
  have g3 := unique_ok x.favour 20 hx.favour hx.favn
  have g4 := unique_ok (x.lets.map Let.name) 20 (by rw [List.length_map]; exact hx.lets) (fun s hs => by obtain ⟨y, hy, rfl⟩ := List.mem_map.1 hs; exact hx.letn y hy)
  have g5 := unique_ok (x.covs.map Cov.name) 20 (by rw [List.length_map]; exact hx.covs) (fun s hs => by obtain ⟨y, hy, rfl⟩ := List.mem_map.1 hs; exact hx.covn y hy)
  have g6 := rightExp_ok x.coupon hx.coupon
  have g7 := containsL_ok x.lets 37 [] badL hx.lets (fun y hy => badL_ok y (hx.lete y hy))
  have g8 := containsV_ok x.covs 39 [] badV hx.covs (fun y hy => badV_ok y (hx.cove y hy))
  have g9 := containsC_ok x.calls 41 [] badC hx.calls (fun y hy => badC_ok y)
  have z1 := hx.lets
  have z2 := hx.covs
  have hm1 : ∀ k, k < x.lets.length → (x.lets.take (k + 1)).map Let.name = (x.lets.take k).map Let.name ++ [(nth x.lets k).name] := fun k hk => by rw [take_nth hk]; simp
  have hm2 : ∀ k, k < x.covs.length → (x.covs.take (k + 1)).map Cov.name = (x.covs.take k).map Cov.name ++ [(nth x.covs k).name] := fun k hk => by rw [take_nth hk]; simp
  refine ACalls.of_W (qs := [cB (rightN x)]) [2] 177 Try.func16 (by kernel_rfl) rfl rfl rfl fun G => ?_
  refine W.initA (hw := ?_)
  apply W.seq
  apply cutK (σ := Unit) 177 [] (fun _ => True) (fun _ => [(1, (True, .addr 1 0 0))]) (fun _ => [(1, ⟨30, 25, [encN x]⟩)])
  case hp => repeat (first | exact Pick.nil | apply Pick.cons rfl)
  case hx =>
    repeat' (first | ((first | apply U_ | (apply Ug_; exact rfl; exact rfl) | (apply Ugq_; exact rfl; exact rfl)); (first | exact QX.B TYok | exact QX.Len TYok | exact QX.Idx TYok); exact rfl) | refine SX.Alloc TYok (h := ?_) | refine SX.Store TYok (h := ?_) | refine SX.Lit TYok (h := ?_) | refine SX.App TYok (h := ?_) | refine SX.Box TYok (h := ?_) | refine SC ?_ | (apply RG.gT; exact rfl; exact rfl; (first | assumption | decide)) | (apply RG.gF; exact rfl; exact rfl; (first | assumption | decide | (rw [ne_eq, Bool.not_eq_true]; assumption) | (rw [ne_eq, Bool.not_eq_false]; assumption)); exact rfl) | (refine W.condA (ht := fun hb => ?_) (hf := fun hb => ?_) <;> (try simp at hb) <;> (try (exfalso; omega))))
    refine ⟨(), trivial, ?_⟩
    exact Le.auto
  case hy =>
  rintro _ _
  apply W.norm (by repeat (first | exact App.nil | apply App.cons))
  apply W.seq
  apply cutK (σ := Unit) 177 [] (fun _ => True) (fun _ => [(1, (True, .addr 1 0 0)), (3, (True, .pv (cB (datesF x))))]) (fun _ => [(1, ⟨30, 25, [encN x]⟩)])
  case hp => repeat (first | exact Pick.nil | apply Pick.cons rfl)
  case hx =>
    unfold datesF
    repeat' (first | ((first | apply U_ | (apply Ug_; exact rfl; exact rfl) | (apply Ugq_; exact rfl; exact rfl)); (first | exact QX.B TYok | exact QX.Len TYok | exact QX.Idx TYok | exact QCl (d1)); exact rfl) | refine SX.Alloc TYok (h := ?_) | refine SX.Store TYok (h := ?_) | refine SX.Lit TYok (h := ?_) | refine SX.App TYok (h := ?_) | refine SX.Box TYok (h := ?_) | refine SC ?_ | (apply RG.gT; exact rfl; exact rfl; (first | assumption | decide)) | (apply RG.gF; exact rfl; exact rfl; (first | assumption | decide | (rw [ne_eq, Bool.not_eq_true]; assumption) | (rw [ne_eq, Bool.not_eq_false]; assumption)); exact rfl) | (refine W.condA (ht := fun hb => ?_) (hf := fun hb => ?_) <;> (try simp at hb) <;> (try (exfalso; omega))))
    refine ⟨(), trivial, ?_⟩
    exact Le.auto
  case hy =>
  rintro _ _
  apply W.norm (by repeat (first | exact App.nil | apply App.cons))
  apply W.seq
  apply cutK (σ := Unit) 177 [] (fun _ => True) (fun _ => [(1, (True, .addr 1 0 0)), (3, (True, .pv (cB (datesF x)))), (4, (True, .pv (cB (oneR x))))]) (fun _ => [(1, ⟨30, 25, [encN x]⟩)])
  case hp => repeat (first | exact Pick.nil | apply Pick.cons rfl)
  case hx =>
    unfold oneR
    cases p0 : [x.face].all (inF 1 1000000000000000) with
    | false =>
      rw [p0] at e1
      repeat' (first | ((first | apply U_ | (apply Ug_; exact rfl; exact rfl) | (apply Ugq_; exact rfl; exact rfl)); (first | exact QX.B TYok | exact QX.Len TYok | exact QX.Idx TYok | exact QCl (e1) | exact QCl (e2) | exact QCl (e3) | exact QCl (e4) | exact QCl (e5) | exact QCl (e6)); exact rfl) | refine SX.Alloc TYok (h := ?_) | refine SX.Store TYok (h := ?_) | refine SX.Lit TYok (h := ?_) | refine SX.App TYok (h := ?_) | refine SX.Box TYok (h := ?_) | refine SC ?_ | (apply RG.gT; exact rfl; exact rfl; (first | assumption | decide)) | (apply RG.gF; exact rfl; exact rfl; (first | assumption | decide | (rw [ne_eq, Bool.not_eq_true]; assumption) | (rw [ne_eq, Bool.not_eq_false]; assumption)); exact rfl) | (refine W.condA (ht := fun hb => ?_) (hf := fun hb => ?_) <;> (try simp at hb) <;> (try (exfalso; omega))))
      refine ⟨(), trivial, ?_⟩
      exact Le.auto
    | true =>
      rw [p0] at e1
      cases p1 : [x.every].all (inF 1 120) with
      | false =>
        rw [p1] at e2
        repeat' (first | ((first | apply U_ | (apply Ug_; exact rfl; exact rfl) | (apply Ugq_; exact rfl; exact rfl)); (first | exact QX.B TYok | exact QX.Len TYok | exact QX.Idx TYok | exact QCl (e1) | exact QCl (e2) | exact QCl (e3) | exact QCl (e4) | exact QCl (e5) | exact QCl (e6)); exact rfl) | refine SX.Alloc TYok (h := ?_) | refine SX.Store TYok (h := ?_) | refine SX.Lit TYok (h := ?_) | refine SX.App TYok (h := ?_) | refine SX.Box TYok (h := ?_) | refine SC ?_ | (apply RG.gT; exact rfl; exact rfl; (first | assumption | decide)) | (apply RG.gF; exact rfl; exact rfl; (first | assumption | decide | (rw [ne_eq, Bool.not_eq_true]; assumption) | (rw [ne_eq, Bool.not_eq_false]; assumption)); exact rfl) | (refine W.condA (ht := fun hb => ?_) (hf := fun hb => ?_) <;> (try simp at hb) <;> (try (exfalso; omega))))
        refine ⟨(), trivial, ?_⟩
        exact Le.auto
      | true =>
        rw [p1] at e2
        cases p2 : [x.count].all (inF 0 2) with
        | false =>
          rw [p2] at e3
          repeat' (first | ((first | apply U_ | (apply Ug_; exact rfl; exact rfl) | (apply Ugq_; exact rfl; exact rfl)); (first | exact QX.B TYok | exact QX.Len TYok | exact QX.Idx TYok | exact QCl (e1) | exact QCl (e2) | exact QCl (e3) | exact QCl (e4) | exact QCl (e5) | exact QCl (e6)); exact rfl) | refine SX.Alloc TYok (h := ?_) | refine SX.Store TYok (h := ?_) | refine SX.Lit TYok (h := ?_) | refine SX.App TYok (h := ?_) | refine SX.Box TYok (h := ?_) | refine SC ?_ | (apply RG.gT; exact rfl; exact rfl; (first | assumption | decide)) | (apply RG.gF; exact rfl; exact rfl; (first | assumption | decide | (rw [ne_eq, Bool.not_eq_true]; assumption) | (rw [ne_eq, Bool.not_eq_false]; assumption)); exact rfl) | (refine W.condA (ht := fun hb => ?_) (hf := fun hb => ?_) <;> (try simp at hb) <;> (try (exfalso; omega))))
          refine ⟨(), trivial, ?_⟩
          exact Le.auto
        | true =>
          rw [p2] at e3
          cases p3 : [x.adjust].all (inF 0 3) with
          | false =>
            rw [p3] at e4
            repeat' (first | ((first | apply U_ | (apply Ug_; exact rfl; exact rfl) | (apply Ugq_; exact rfl; exact rfl)); (first | exact QX.B TYok | exact QX.Len TYok | exact QX.Idx TYok | exact QCl (e1) | exact QCl (e2) | exact QCl (e3) | exact QCl (e4) | exact QCl (e5) | exact QCl (e6)); exact rfl) | refine SX.Alloc TYok (h := ?_) | refine SX.Store TYok (h := ?_) | refine SX.Lit TYok (h := ?_) | refine SX.App TYok (h := ?_) | refine SX.Box TYok (h := ?_) | refine SC ?_ | (apply RG.gT; exact rfl; exact rfl; (first | assumption | decide)) | (apply RG.gF; exact rfl; exact rfl; (first | assumption | decide | (rw [ne_eq, Bool.not_eq_true]; assumption) | (rw [ne_eq, Bool.not_eq_false]; assumption)); exact rfl) | (refine W.condA (ht := fun hb => ?_) (hf := fun hb => ?_) <;> (try simp at hb) <;> (try (exfalso; omega))))
            refine ⟨(), trivial, ?_⟩
            exact Le.auto
          | true =>
            rw [p3] at e4
            cases p4 : [x.record].all (inF 0 100) with
            | false =>
              rw [p4] at e5
              repeat' (first | ((first | apply U_ | (apply Ug_; exact rfl; exact rfl) | (apply Ugq_; exact rfl; exact rfl)); (first | exact QX.B TYok | exact QX.Len TYok | exact QX.Idx TYok | exact QCl (e1) | exact QCl (e2) | exact QCl (e3) | exact QCl (e4) | exact QCl (e5) | exact QCl (e6)); exact rfl) | refine SX.Alloc TYok (h := ?_) | refine SX.Store TYok (h := ?_) | refine SX.Lit TYok (h := ?_) | refine SX.App TYok (h := ?_) | refine SX.Box TYok (h := ?_) | refine SC ?_ | (apply RG.gT; exact rfl; exact rfl; (first | assumption | decide)) | (apply RG.gF; exact rfl; exact rfl; (first | assumption | decide | (rw [ne_eq, Bool.not_eq_true]; assumption) | (rw [ne_eq, Bool.not_eq_false]; assumption)); exact rfl) | (refine W.condA (ht := fun hb => ?_) (hf := fun hb => ?_) <;> (try simp at hb) <;> (try (exfalso; omega))))
              refine ⟨(), trivial, ?_⟩
              exact Le.auto
            | true =>
              rw [p4] at e5
              cases p5 : [x.rank].all (inF 0 9) with
              | false =>
                rw [p5] at e6
                repeat' (first | ((first | apply U_ | (apply Ug_; exact rfl; exact rfl) | (apply Ugq_; exact rfl; exact rfl)); (first | exact QX.B TYok | exact QX.Len TYok | exact QX.Idx TYok | exact QCl (e1) | exact QCl (e2) | exact QCl (e3) | exact QCl (e4) | exact QCl (e5) | exact QCl (e6)); exact rfl) | refine SX.Alloc TYok (h := ?_) | refine SX.Store TYok (h := ?_) | refine SX.Lit TYok (h := ?_) | refine SX.App TYok (h := ?_) | refine SX.Box TYok (h := ?_) | refine SC ?_ | (apply RG.gT; exact rfl; exact rfl; (first | assumption | decide)) | (apply RG.gF; exact rfl; exact rfl; (first | assumption | decide | (rw [ne_eq, Bool.not_eq_true]; assumption) | (rw [ne_eq, Bool.not_eq_false]; assumption)); exact rfl) | (refine W.condA (ht := fun hb => ?_) (hf := fun hb => ?_) <;> (try simp at hb) <;> (try (exfalso; omega))))
                refine ⟨(), trivial, ?_⟩
                exact Le.auto
              | true =>
                rw [p5] at e6
                repeat' (first | ((first | apply U_ | (apply Ug_; exact rfl; exact rfl) | (apply Ugq_; exact rfl; exact rfl)); (first | exact QX.B TYok | exact QX.Len TYok | exact QX.Idx TYok | exact QCl (e1) | exact QCl (e2) | exact QCl (e3) | exact QCl (e4) | exact QCl (e5) | exact QCl (e6)); exact rfl) | refine SX.Alloc TYok (h := ?_) | refine SX.Store TYok (h := ?_) | refine SX.Lit TYok (h := ?_) | refine SX.App TYok (h := ?_) | refine SX.Box TYok (h := ?_) | refine SC ?_ | (apply RG.gT; exact rfl; exact rfl; (first | assumption | decide)) | (apply RG.gF; exact rfl; exact rfl; (first | assumption | decide | (rw [ne_eq, Bool.not_eq_true]; assumption) | (rw [ne_eq, Bool.not_eq_false]; assumption)); exact rfl) | (refine W.condA (ht := fun hb => ?_) (hf := fun hb => ?_) <;> (try simp at hb) <;> (try (exfalso; omega))))
                refine ⟨(), trivial, ?_⟩
                exact Le.auto
  case hy =>
  rintro _ _
  apply W.norm (by repeat (first | exact App.nil | apply App.cons))
  apply W.seq
  apply cutK (σ := Unit) 177 [] (fun _ => True) (fun _ => [(1, (True, .addr 1 0 0)), (3, (True, .pv (cB (datesF x)))), (4, (True, .pv (cB (oneR x)))), (5, (True, .pv (cB (twoR x))))]) (fun _ => [(1, ⟨30, 25, [encN x]⟩)])
  case hp => repeat (first | exact Pick.nil | apply Pick.cons rfl)
  case hx =>
    unfold twoR
    cases p0 : [x.cap].all (inF 0 10000) with
    | false =>
      rw [p0] at f1
      repeat' (first | ((first | apply U_ | (apply Ug_; exact rfl; exact rfl) | (apply Ugq_; exact rfl; exact rfl)); (first | exact QX.B TYok | exact QX.Len TYok | exact QX.Idx TYok | exact QCl (f1) | exact QCl (f2) | exact QCl (f3) | exact QCl (f4)); exact rfl) | refine SX.Alloc TYok (h := ?_) | refine SX.Store TYok (h := ?_) | refine SX.Lit TYok (h := ?_) | refine SX.App TYok (h := ?_) | refine SX.Box TYok (h := ?_) | refine SC ?_ | (apply RG.gT; exact rfl; exact rfl; (first | assumption | decide)) | (apply RG.gF; exact rfl; exact rfl; (first | assumption | decide | (rw [ne_eq, Bool.not_eq_true]; assumption) | (rw [ne_eq, Bool.not_eq_false]; assumption)); exact rfl) | (refine W.condA (ht := fun hb => ?_) (hf := fun hb => ?_) <;> (try simp at hb) <;> (try (exfalso; omega))))
      refine ⟨(), trivial, ?_⟩
      exact Le.auto
    | true =>
      rw [p0] at f1
      cases p1 : [x.cross].all (inF (-1) 1000000000000000) with
      | false =>
        rw [p1] at f2
        repeat' (first | ((first | apply U_ | (apply Ug_; exact rfl; exact rfl) | (apply Ugq_; exact rfl; exact rfl)); (first | exact QX.B TYok | exact QX.Len TYok | exact QX.Idx TYok | exact QCl (f1) | exact QCl (f2) | exact QCl (f3) | exact QCl (f4)); exact rfl) | refine SX.Alloc TYok (h := ?_) | refine SX.Store TYok (h := ?_) | refine SX.Lit TYok (h := ?_) | refine SX.App TYok (h := ?_) | refine SX.Box TYok (h := ?_) | refine SC ?_ | (apply RG.gT; exact rfl; exact rfl; (first | assumption | decide)) | (apply RG.gF; exact rfl; exact rfl; (first | assumption | decide | (rw [ne_eq, Bool.not_eq_true]; assumption) | (rw [ne_eq, Bool.not_eq_false]; assumption)); exact rfl) | (refine W.condA (ht := fun hb => ?_) (hf := fun hb => ?_) <;> (try simp at hb) <;> (try (exfalso; omega))))
        refine ⟨(), trivial, ?_⟩
        exact Le.auto
      | true =>
        rw [p1] at f2
        cases p2 : [x.notice, x.sink].all (inF 0 1000) with
        | false =>
          rw [p2] at f3
          repeat' (first | ((first | apply U_ | (apply Ug_; exact rfl; exact rfl) | (apply Ugq_; exact rfl; exact rfl)); (first | exact QX.B TYok | exact QX.Len TYok | exact QX.Idx TYok | exact QCl (f1) | exact QCl (f2) | exact QCl (f3) | exact QCl (f4)); exact rfl) | refine SX.Alloc TYok (h := ?_) | refine SX.Store TYok (h := ?_) | refine SX.Lit TYok (h := ?_) | refine SX.App TYok (h := ?_) | refine SX.Box TYok (h := ?_) | refine SC ?_ | (apply RG.gT; exact rfl; exact rfl; (first | assumption | decide)) | (apply RG.gF; exact rfl; exact rfl; (first | assumption | decide | (rw [ne_eq, Bool.not_eq_true]; assumption) | (rw [ne_eq, Bool.not_eq_false]; assumption)); exact rfl) | (refine W.condA (ht := fun hb => ?_) (hf := fun hb => ?_) <;> (try simp at hb) <;> (try (exfalso; omega))))
          refine ⟨(), trivial, ?_⟩
          exact Le.auto
        | true =>
          rw [p2] at f3
          cases p3 : [x.majority, x.fast].all (inF 1 1000) with
          | false =>
            rw [p3] at f4
            repeat' (first | ((first | apply U_ | (apply Ug_; exact rfl; exact rfl) | (apply Ugq_; exact rfl; exact rfl)); (first | exact QX.B TYok | exact QX.Len TYok | exact QX.Idx TYok | exact QCl (f1) | exact QCl (f2) | exact QCl (f3) | exact QCl (f4)); exact rfl) | refine SX.Alloc TYok (h := ?_) | refine SX.Store TYok (h := ?_) | refine SX.Lit TYok (h := ?_) | refine SX.App TYok (h := ?_) | refine SX.Box TYok (h := ?_) | refine SC ?_ | (apply RG.gT; exact rfl; exact rfl; (first | assumption | decide)) | (apply RG.gF; exact rfl; exact rfl; (first | assumption | decide | (rw [ne_eq, Bool.not_eq_true]; assumption) | (rw [ne_eq, Bool.not_eq_false]; assumption)); exact rfl) | (refine W.condA (ht := fun hb => ?_) (hf := fun hb => ?_) <;> (try simp at hb) <;> (try (exfalso; omega))))
            refine ⟨(), trivial, ?_⟩
            exact Le.auto
          | true =>
            rw [p3] at f4
            repeat' (first | ((first | apply U_ | (apply Ug_; exact rfl; exact rfl) | (apply Ugq_; exact rfl; exact rfl)); (first | exact QX.B TYok | exact QX.Len TYok | exact QX.Idx TYok | exact QCl (f1) | exact QCl (f2) | exact QCl (f3) | exact QCl (f4)); exact rfl) | refine SX.Alloc TYok (h := ?_) | refine SX.Store TYok (h := ?_) | refine SX.Lit TYok (h := ?_) | refine SX.App TYok (h := ?_) | refine SX.Box TYok (h := ?_) | refine SC ?_ | (apply RG.gT; exact rfl; exact rfl; (first | assumption | decide)) | (apply RG.gF; exact rfl; exact rfl; (first | assumption | decide | (rw [ne_eq, Bool.not_eq_true]; assumption) | (rw [ne_eq, Bool.not_eq_false]; assumption)); exact rfl) | (refine W.condA (ht := fun hb => ?_) (hf := fun hb => ?_) <;> (try simp at hb) <;> (try (exfalso; omega))))
            refine ⟨(), trivial, ?_⟩
            exact Le.auto
  case hy =>
  rintro _ _
  apply W.norm (by repeat (first | exact App.nil | apply App.cons))
  repeat' (first | ((first | apply U_ | (apply Ug_; exact rfl; exact rfl) | (apply Ugq_; exact rfl; exact rfl)); (first | exact QX.B TYok | exact QX.Len TYok | exact QX.Idx TYok | exact QCl (g1) | exact QCl (g2) | exact QCl (g3)); exact rfl) | refine SX.Alloc TYok (h := ?_) | refine SX.Store TYok (h := ?_) | refine SX.Lit TYok (h := ?_) | refine SX.App TYok (h := ?_) | refine SX.Box TYok (h := ?_) | refine SC ?_ | (apply RG.gT; exact rfl; exact rfl; (first | assumption | decide)) | (apply RG.gF; exact rfl; exact rfl; (first | assumption | decide | (rw [ne_eq, Bool.not_eq_true]; assumption) | (rw [ne_eq, Bool.not_eq_false]; assumption)); exact rfl) | (refine W.condA (ht := fun hb => ?_) (hf := fun hb => ?_) <;> (try simp at hb) <;> (try (exfalso; omega))))
  · have e0 : rightN x = false := by
      cases hq : rightN x with
      | false => rfl
      | true =>
        exfalso
        simp only [rightN, hdR, Bool.and_eq_true, decide_eq_true_iff] at hq
        obtain ⟨⟨⟨⟨⟨⟨⟨⟨v1, v2⟩, v3⟩, v4⟩, v5⟩, v6⟩, v7⟩, v8⟩, v9⟩ := hq
        simp [v1, v2, v3, v4, v5, v7] at hb
        omega
    rw [e0]
    exact Fin.ret ResL.auto
  have hhd : hdR x = true := by
    simp only [hdR, Bool.and_eq_true, decide_eq_true_iff]
    obtain ⟨⟨⟨⟨⟨⟨v1, v2⟩, v3⟩, v4⟩, v5⟩, v6⟩, v7⟩ := hb
    exact ⟨⟨⟨⟨⟨⟨v1, v2⟩, v3⟩, v4⟩, v5⟩, v6⟩, v7⟩
  refine W.weaken (Le.nilOwn (t := 6) (n := 131) (E := 9) (sz := 1) rfl) ?_
  refine W.weaken (Le.nilOwn (t := 7) (n := 144) (E := 9) (sz := 1) rfl) ?_
  apply W.loopP (σ := Nat) 177 [1, 121, 122] (fun k => k ≤ x.lets.length) (fun k => [(6, (True, .slc 131)), (7, (True, .slc 144)), (123, vI k)]) (fun k => [(1, ⟨30, 25, [encN x]⟩), (131, ⟨9, 1, ((x.lets.take k).map Let.name).map encS⟩), (144, ⟨9, 1, ([] : List Str).map encS⟩)]) (fun k => x.lets.length - k) (0)
  case hp => repeat (first | exact Pick.nil | apply Pick.cons rfl)
  case h0 =>
    refine ⟨by simp, ?_⟩
    exact Le.auto
  case round =>
    rintro k hk1
    apply W.norm (by repeat (first | exact App.nil | apply App.cons))
    by_cases hk : k < x.lets.length
    · have hl : ((x.lets.take k).map Let.name).length ≤ 1000 := by simp; omega
      have ht := hm1 k hk
      generalize hgl : (x.lets.take k).map Let.name = nl at hl ht
      repeat' (first | ((first | apply U_ | (apply Ug_; exact rfl; exact rfl) | (apply Ugq_; exact rfl; exact rfl)); (first | exact QX.B TYok | exact QX.Len TYok | exact QX.Idx TYok); exact rfl) | refine SX.Alloc TYok (h := ?_) | refine SX.Store TYok (h := ?_) | refine SX.Lit TYok (h := ?_) | refine SX.App TYok (h := ?_) | refine SX.Box TYok (h := ?_) | refine SC ?_ | (apply RG.gT; exact rfl; exact rfl; (first | assumption | decide)) | (apply RG.gF; exact rfl; exact rfl; (first | assumption | decide | (rw [ne_eq, Bool.not_eq_true]; assumption) | (rw [ne_eq, Bool.not_eq_false]; assumption)); exact rfl) | (refine W.condA (ht := fun hb => ?_) (hf := fun hb => ?_) <;> (try simp at hb) <;> (try (exfalso; omega))))
      refine ⟨k + 1, by omega, ?_, ?_⟩
      · simp only [ht, List.map_append, List.map_cons, List.map_nil]
        exact Le.auto
      · (try simp only); omega
    · obtain rfl : k = x.lets.length := by omega
      simp only [List.take_length]
      repeat' (first | ((first | apply U_ | (apply Ug_; exact rfl; exact rfl) | (apply Ugq_; exact rfl; exact rfl)); (first | exact QX.B TYok | exact QX.Len TYok | exact QX.Idx TYok); exact rfl) | refine SX.Alloc TYok (h := ?_) | refine SX.Store TYok (h := ?_) | refine SX.Lit TYok (h := ?_) | refine SX.App TYok (h := ?_) | refine SX.Box TYok (h := ?_) | refine SC ?_ | (apply RG.gT; exact rfl; exact rfl; (first | assumption | decide)) | (apply RG.gF; exact rfl; exact rfl; (first | assumption | decide | (rw [ne_eq, Bool.not_eq_true]; assumption) | (rw [ne_eq, Bool.not_eq_false]; assumption)); exact rfl) | (refine W.condA (ht := fun hb => ?_) (hf := fun hb => ?_) <;> (try simp at hb) <;> (try (exfalso; omega))))
      apply W.loopP (σ := Nat) 177 [1, 134, 135] (fun k => k ≤ x.covs.length) (fun k => [(6, (True, .slc 131)), (7, (True, .slc 144)), (136, vI k)]) (fun k => [(1, ⟨30, 25, [encN x]⟩), (131, ⟨9, 1, (x.lets.map Let.name).map encS⟩), (144, ⟨9, 1, ((x.covs.take k).map Cov.name).map encS⟩)]) (fun k => x.covs.length - k) (0)
      case hp => repeat (first | exact Pick.nil | apply Pick.cons rfl)
      case h0 =>
        refine ⟨by simp, ?_⟩
        exact Le.auto
      case round =>
        rintro k hk1
        apply W.norm (by repeat (first | exact App.nil | apply App.cons))
        by_cases hk : k < x.covs.length
        · have hl : ((x.covs.take k).map Cov.name).length ≤ 1000 := by simp; omega
          have ht := hm2 k hk
          generalize hgl : (x.covs.take k).map Cov.name = nl at hl ht
          repeat' (first | ((first | apply U_ | (apply Ug_; exact rfl; exact rfl) | (apply Ugq_; exact rfl; exact rfl)); (first | exact QX.B TYok | exact QX.Len TYok | exact QX.Idx TYok); exact rfl) | refine SX.Alloc TYok (h := ?_) | refine SX.Store TYok (h := ?_) | refine SX.Lit TYok (h := ?_) | refine SX.App TYok (h := ?_) | refine SX.Box TYok (h := ?_) | refine SC ?_ | (apply RG.gT; exact rfl; exact rfl; (first | assumption | decide)) | (apply RG.gF; exact rfl; exact rfl; (first | assumption | decide | (rw [ne_eq, Bool.not_eq_true]; assumption) | (rw [ne_eq, Bool.not_eq_false]; assumption)); exact rfl) | (refine W.condA (ht := fun hb => ?_) (hf := fun hb => ?_) <;> (try simp at hb) <;> (try (exfalso; omega))))
          refine ⟨k + 1, by omega, ?_, ?_⟩
          · simp only [ht, List.map_append, List.map_cons, List.map_nil]
            exact Le.auto
          · (try simp only); omega
        · obtain rfl : k = x.covs.length := by omega
          simp only [List.take_length]
          repeat' (first | ((first | apply U_ | (apply Ug_; exact rfl; exact rfl) | (apply Ugq_; exact rfl; exact rfl)); (first | exact QX.B TYok | exact QX.Len TYok | exact QX.Idx TYok | exact QCl (g4) | exact QCl (g5) | exact QCd (g6) | exact QCl (g7) | exact QCl (g8) | exact QCl (g9)); exact rfl) | refine SX.Alloc TYok (h := ?_) | refine SX.Store TYok (h := ?_) | refine SX.Lit TYok (h := ?_) | refine SX.App TYok (h := ?_) | refine SX.Box TYok (h := ?_) | refine SC ?_ | (apply RG.gT; exact rfl; exact rfl; (first | assumption | decide)) | (apply RG.gF; exact rfl; exact rfl; (first | assumption | decide | (rw [ne_eq, Bool.not_eq_true]; assumption) | (rw [ne_eq, Bool.not_eq_false]; assumption)); exact rfl) | (refine W.condA (ht := fun hb => ?_) (hf := fun hb => ?_) <;> (try simp at hb) <;> (try (exfalso; omega))))
          · have e0 : rightN x = false := by
              have : midR x = false := by
                unfold midR
                rcases hb with (h | h) | h <;> simp [h]
              rw [rightN, this, Bool.and_false, Bool.false_and]
            rw [e0]
            exact Fin.ret ResL.auto
          · have hm : midR x = true := by
              unfold midR
              rw [hb.1.1, hb.1.2, hb.2]; rfl
            rw [rightN, hhd, hm, Bool.true_and, Bool.true_and]
            exact Fin.ret ResL.auto
end
end Go.Proofs.Ytppdbmobcfedcaa
end
section
set_option linter.unusedVariables false
set_option linter.unusedSimpArgs false
set_option maxHeartbeats 8000000
set_option linter.unusedSectionVars false
namespace Go.Proofs.Ytppdbmobcfedcaa
open Lf Go
attribute [local irreducible] PureOp EffOp Ev RG W Then InBlock Lf.Fin nth App InitE Pick SubE EvL EvD EvP EvR ResL Lf.Lex SubR SubBR RA RAll EvC FinO FinM ResM
section
mutual
def tempF : Exp → Bool
  | .mk op _ _ _ l => ((decide (op = 16) || decide (op = 17)) || decide (op = 18)) || tempFs l
def tempFs : List Exp → Bool
  | [] => false
  | e :: r => tempF e || tempFs r
end
theorem tempFs_any : ∀ l, tempFs l = l.any tempF
  | [] => rfl
  | e :: r => by rw [tempFs, tempFs_any r]; rfl
theorem temp_ok (e : Exp) : OkE e → ACalls Try.prog 30 [aE e] (.pv (cB (tempF e))) := by
  refine Exp.ind (P := fun e => OkE e → ACalls Try.prog 30 [aE e] (.pv (cB (tempF e)))) (fun op n u s l ih he => ?_) e
  cases he with
  | mk hs hl h =>
  rw [aE_mk, tempF, tempFs_any]
  have hc := containsE_ok l 30 [] tempF hl (fun x hx => ih x hx (h x hx))
  generalize l.any tempF = b at *
  refine ACalls.of_W (qs := [cB (((decide (op = 16) || decide (op = 17)) || decide (op = 18)) || b)]) [2] 21 Try.func30 (by kernel_rfl) rfl rfl rfl fun G => ?_
  refine W.initA (hw := ?_)
  repeat' (first | ((first | apply U_ | (apply Ug_; exact rfl; exact rfl) | (apply Ugq_; exact rfl; exact rfl)); (first | exact QX.B TYok | exact QCl (hc)); exact rfl) | refine SX.Box TYok (h := ?_) | refine SC ?_ | (apply S_isnil TYok; exact rfl; exact rfl; exact rfl; exact Ev.auto; intro bn hnil) | (apply RG.gT; exact rfl; exact rfl; (first | assumption | decide)) | (apply RG.gF; exact rfl; exact rfl; (first | assumption | decide | (rw [ne_eq, Bool.not_eq_true]; assumption) | (rw [ne_eq, Bool.not_eq_false]; assumption)); exact rfl) | (refine W.condA (ht := fun hb => ?_) (hf := fun hb => ?_) <;> (try simp at hb) <;> (try (exfalso; omega))))
  exact Fin.ret ResL.auto
theorem first_ok (a b : Int) : ACalls Try.prog 31 [cI a, cI b] (.pv (cI (if a ≠ 0 then a else b))) := by
  by_cases h : a = 0
  · rw [if_neg (by omega)]
    refine ACalls.of_W (qs := [cI b]) [4] 9 Try.func31 (by kernel_rfl) rfl rfl rfl fun G => ?_
    refine W.initA (hw := ?_)
    repeat' (first | ((first | apply U_); (first | exact QX.B TYok); exact rfl) | refine SC ?_ | (refine W.condA (ht := fun hb => ?_) (hf := fun hb => ?_) <;> (try simp at hb) <;> (try (exfalso; omega))))
    all_goals first
      | exact Fin.ret ResL.auto
      | (exfalso; omega)
  · rw [if_pos h]
    refine ACalls.of_W (qs := [cI a]) [4] 9 Try.func31 (by kernel_rfl) rfl rfl rfl fun G => ?_
    refine W.initA (hw := ?_)
    repeat' (first | ((first | apply U_); (first | exact QX.B TYok); exact rfl) | refine SC ?_ | (refine W.condA (ht := fun hb => ?_) (hf := fun hb => ?_) <;> (try simp at hb) <;> (try (exfalso; omega))))
    all_goals first
      | exact Fin.ret ResL.auto
      | (exfalso; omega)
/-- the first error among the first ones -/
def firstE (f : Nat → Int) : Nat → Int
  | 0 => 0
  | n + 1 => if firstE f n ≠ 0 then firstE f n else f n
theorem firstE_stop {f : Nat → Int} {k : Nat} (h : firstE f k ≠ 0) : ∀ j, firstE f (k + j) = firstE f k
  | 0 => rfl
  | j + 1 => by rw [← Nat.add_assoc, firstE, firstE_stop h j, if_pos h]
theorem firstE_hit {f : Nat → Int} {k n : Nat} (hk : k < n) (h0 : firstE f k = 0) (h1 : f k ≠ 0) : firstE f n = f k := by
  have e : firstE f (k + 1) = f k := by rw [firstE, if_neg (by omega)]
  have := firstE_stop (f := f) (k := k + 1) (by rw [e]; exact h1) (n - (k + 1))
  rwa [e, show k + 1 + (n - (k + 1)) = n by omega] at this
theorem firstE_all {f : Nat → Int} : ∀ {n : Nat}, firstE f n = 0 → ∀ k, k < n → f k = 0
  | 0, _, k, h => by omega
  | n + 1, h0, k, h => by
    rw [firstE] at h0
    by_cases q : firstE f n = 0
    · rw [if_neg (by omega)] at h0
      by_cases e : k = n
      · subst e; exact h0
      · exact firstE_all q k (by omega)
    · rw [if_pos q] at h0; exact absurd h0 q
theorem firstE_zero {f : Nat → Int} : ∀ {n : Nat}, (∀ k, k < n → f k = 0) → firstE f n = 0
  | 0, _ => rfl
  | n + 1, h => by
    rw [firstE, firstE_zero (fun k hk => h k (by omega)), if_neg (by simp)]
    exact h n (by omega)
def letE (lets : List Let) (k : Nat) : Int := if tempF (nth lets k).body = true then 14 else (ofT (lets.take k) (nth lets k).body).e
def cupE (lets : List Let) (e : Exp) : Int := if tempF e = true then 14 else if (ofT lets e).e ≠ 0 then (ofT lets e).e else if (ofT lets e).u ≠ 2 then 13 else 0
def covE (lets : List Let) (covs : List Cov) (k : Nat) : Int := if (ofT lets (nth covs k).must).e ≠ 0 then (ofT lets (nth covs k).must).e else if (ofT lets (nth covs k).must).u ≠ 4 then 13 else 0
def checkF (x : Ind) : Int :=
  if rightN x = false then 1
  else if firstE (letE x.lets) x.lets.length ≠ 0 then firstE (letE x.lets) x.lets.length
  else if cupE x.lets x.coupon ≠ 0 then cupE x.lets x.coupon
  else firstE (covE x.lets x.covs) x.covs.length
theorem chk_let {x : Ind} (hr : rightN x = true) {k : Nat} (hk : k < x.lets.length) (h0 : firstE (letE x.lets) k = 0) {v : Int} (h1 : letE x.lets k = v) (hv : v ≠ 0) : checkF x = v := by
  have e := firstE_hit hk h0 (by rw [h1]; exact hv)
  unfold checkF
  rw [if_neg (by rw [hr]; decide), e, h1, if_pos hv]
theorem chk_cup {x : Ind} (hr : rightN x = true) (h0 : firstE (letE x.lets) x.lets.length = 0) {v : Int} (h1 : cupE x.lets x.coupon = v) (hv : v ≠ 0) : checkF x = v := by
  unfold checkF
  rw [if_neg (by rw [hr]; decide), if_neg (by omega), if_pos (by rw [h1]; exact hv), h1]
theorem chk_cov {x : Ind} (hr : rightN x = true) (h0 : firstE (letE x.lets) x.lets.length = 0) (h2 : cupE x.lets x.coupon = 0) {k : Nat} (hk : k < x.covs.length) (h3 : firstE (covE x.lets x.covs) k = 0) {v : Int} (h1 : covE x.lets x.covs k = v) (hv : v ≠ 0) : checkF x = v := by
  have e := firstE_hit hk h3 (by rw [h1]; exact hv)
  unfold checkF
  rw [if_neg (by rw [hr]; decide), if_neg (by omega), if_neg (by omega), e, h1]
theorem chk_all {x : Ind} (hr : rightN x = true) (h0 : firstE (letE x.lets) x.lets.length = 0) (h2 : cupE x.lets x.coupon = 0) : checkF x = firstE (covE x.lets x.covs) x.covs.length := by
  unfold checkF
  rw [if_neg (by rw [hr]; decide), if_neg (by omega), if_neg (by omega)]
theorem lin_of {x : Ind} (hx : OkN x) (k : Nat) : LIn (x.lets.take k) := ⟨by have := hx.lets; rw [List.length_take]; omega, fun y hy => hx.lete y (List.mem_of_mem_take hy)⟩
theorem lin_all {x : Ind} (hx : OkN x) : LIn x.lets := ⟨hx.lets, hx.lete⟩
end
end Go.Proofs.Ytppdbmobcfedcaa
end
section
set_option linter.unusedVariables false
set_option linter.unusedSimpArgs false
set_option maxHeartbeats 8000000
set_option linter.unusedSectionVars false
namespace Go.Proofs.Ytppdbmobcfedcaa
open Lf Go
attribute [local irreducible] PureOp EffOp Ev RG W Then InBlock Lf.Fin nth App InitE Pick SubE EvL EvD EvP EvR ResL Lf.Lex SubR SubBR RA RAll EvC FinO FinM ResM
section
theorem clone_ok (a : List Int) (hl : a.length ≤ 1000000) : OCalls Try.prog 63 [slJ a] 3 1 (a.map encJ) := by
  refine OCalls.of_W 2 8 Try.func63 (by kernel_rfl) rfl rfl rfl rfl fun G => ?_
  refine W.initA (hw := ?_)
  repeat' (first | ((first | apply U_); (first | exact QX.B TYok); exact rfl) | refine SX.Lit TYok (h := ?_) | refine SX.App TYok (h := ?_) | refine SC ?_ | (apply S_isnil TYok; exact rfl; exact rfl; exact rfl; exact Ev.auto; intro bn hnil) | (refine W.condA (ht := fun hb => ?_) (hf := fun hb => ?_) <;> (try simp at hb) <;> (try (exfalso; omega))))
  · rw [hnil hb]
    exact FinO.nil rfl rfl
  · exact FinO.ret rfl rfl (by simp)
theorem pair_ok (op a b : Int) : ACalls Try.prog 77 [cI op, cI a, cI b] (.pv (cI (pairF op a b))) := by
  generalize hr : pairF op a b = r
  unfold pairF at hr
  refine ACalls.of_W (qs := [cI r]) [6] 76 Try.func77 (by kernel_rfl) rfl rfl rfl fun G => ?_
  refine W.initA (hw := ?_)
  repeat' (first | ((first | apply U_ | (apply Ug_; exact rfl; exact rfl) | (apply Ugq_; exact rfl; exact rfl)); (first | exact QX.B TYok); exact rfl) | refine SC ?_ | (apply S_isnil TYok; exact rfl; exact rfl; exact rfl; exact Ev.auto; intro bn hnil) | (apply RG.gT; exact rfl; exact rfl; (first | assumption | decide)) | (apply RG.gF; exact rfl; exact rfl; (first | assumption | decide | (rw [ne_eq, Bool.not_eq_true]; assumption) | (rw [ne_eq, Bool.not_eq_false]; assumption)); exact rfl) | (refine W.condA (ht := fun hb => ?_) (hf := fun hb => ?_) <;> (try simp at hb) <;> (try (exfalso; omega))))
  all_goals first
    | (refine Fin.ret (ResL.cons rfl rfl (PSub.of_eq ?_) ResL.nil); congr 2; split at hr <;> (repeat' split at hr) <;> omega)
    | trace_state
theorem indexX_ok (l : List Int) (x : Int) (hl : l.length ≤ 9223372036854775807) : ACalls Try.prog 81 [slJ l, cI x] (.pv (cI (fidx (fun y => decide (x = y)) l))) := by
  refine ACalls.of_W (qs := [cI (fidx (fun y => decide (x = y)) l)]) [4] 19 Try.func81 (by kernel_rfl) rfl rfl rfl fun G => ?_
  refine W.initA (hw := ?_)
  repeat' (first | ((first | apply U_); (first | exact QX.B TYok | exact QX.Len TYok | exact QX.Idx TYok); exact rfl) | refine SC ?_ | (apply S_isnil TYok; exact rfl; exact rfl; exact rfl; exact Ev.auto; intro bn hnil) | (refine W.condA (ht := fun hb => ?_) (hf := fun hb => ?_) <;> (try simp at hb) <;> (try (exfalso; omega))))
  apply W.loopP (σ := Nat) 19 [0, 1, 7] (fun k => k ≤ l.length ∧ ((l.take k).any fun y => decide (x = y)) = false) (fun k => [(8, vI k)]) (fun _ => []) (fun k => l.length - k) (0)
  case hp => repeat (first | exact Pick.nil | apply Pick.cons rfl)
  case h0 =>
    refine ⟨by simp, ?_⟩
    exact Le.auto
  case round =>
    rintro k ⟨h1, h2⟩
    apply W.norm (by repeat (first | exact App.nil | apply App.cons))
    by_cases hk : k < l.length
    · repeat' (first | ((first | apply U_); (first | exact QX.B TYok | exact QX.Len TYok | exact QX.Idx TYok); exact rfl) | refine SC ?_ | (apply S_isnil TYok; exact rfl; exact rfl; exact rfl; exact Ev.auto; intro bn hnil) | (refine W.condA (ht := fun hb => ?_) (hf := fun hb => ?_) <;> (try simp at hb) <;> (try (exfalso; omega))))
      all_goals first
        | (rw [fidx_hit hk h2 (decide_eq_true hb)]; exact Fin.ret ResL.auto)
        | (refine ⟨k + 1, ⟨by omega, ?_⟩, ?_, ?_⟩
           · rw [any_take hk, h2]; exact decide_eq_false hb
           · exact Le.auto
           · (try simp only); omega)
        | trace_state
    · obtain rfl : k = l.length := by omega
      rw [List.take_length] at h2
      repeat' (first | ((first | apply U_); (first | exact QX.B TYok | exact QX.Len TYok | exact QX.Idx TYok); exact rfl) | refine SC ?_ | (apply S_isnil TYok; exact rfl; exact rfl; exact rfl; exact Ev.auto; intro bn hnil) | (refine W.condA (ht := fun hb => ?_) (hf := fun hb => ?_) <;> (try simp at hb) <;> (try (exfalso; omega))))
      rw [fidx_miss h2]
      exact Fin.ret ResL.auto
theorem containsX_ok (l : List Int) (x : Int) (hl : l.length ≤ 9223372036854775807) : ACalls Try.prog 80 [slJ l, cI x] (.pv (cB (l.any fun y => decide (x = y)))) := by
  refine ACalls.of_W (qs := [cB (l.any fun y => decide (x = y))]) [4] 9 Try.func80 (by kernel_rfl) rfl rfl rfl fun G => ?_
  refine W.initA (hw := ?_)
  repeat' (first | ((first | apply U_); (first | exact QX.B TYok | exact QCl (indexX_ok l x hl)); exact rfl) | refine SC ?_ | (refine W.condA (ht := fun hb => ?_) (hf := fun hb => ?_) <;> (try simp at hb) <;> (try (exfalso; omega))))
  rw [← fidx_nn]
  exact Fin.ret ResL.auto
theorem logic_ok (op : Int) : ACalls Try.prog 76 [cI op] (.pv (cB (logicF op))) := by
  have h := containsX_ok [12, 13, 14, 16, 17, 18] op (by simp)
  unfold logicF
  generalize (([12, 13, 14, 16, 17, 18] : List Int).any fun y => decide (op = y)) = b at *
  refine ACalls.of_W (qs := [cB b]) [2] 6 Try.func76 (by kernel_rfl) rfl rfl rfl fun G => ?_
  refine W.initA (hw := ?_)
  repeat' (first | ((first | apply U_); (first | (apply Q_litD TYok; apply EvR.cons Ev.auto; (repeat (first | exact EvR.nil | apply EvR.cons Ev.auto)); exact rfl; exact rfl; exact rfl; exact rfl; exact rfl; exact rfl) | exact QX.B TYok | exact QCd (h)); exact rfl) | refine SX.Lit TYok (h := ?_) | refine SC ?_ | (refine W.condA (ht := fun hb => ?_) (hf := fun hb => ?_) <;> (try simp at hb) <;> (try (exfalso; omega))))
  all_goals exact Fin.ret ResL.auto
theorem odd_ok (u : Int) : ACalls Try.prog 75 [cI u] (.pv (cB (!decide (u = 4)))) := by
  refine ACalls.of_W (qs := [cB (!decide (u = 4))]) [2] 5 Try.func75 (by kernel_rfl) rfl rfl rfl fun G => ?_
  refine W.initA (hw := ?_)
  repeat' (first | ((first | apply U_); (first | exact QX.B TYok); exact rfl) | refine SC ?_ | (refine W.condA (ht := fun hb => ?_) (hf := fun hb => ?_) <;> (try simp at hb) <;> (try (exfalso; omega))))
  all_goals exact Fin.ret ResL.auto
theorem joined_ok (op : Int) (l : List Int) (hl : l.length ≤ 3) (h3 : op = 15 → l.length = 3) : ACalls Try.prog 64 [cI op, slJ l] (.pv (cI (joinF op l))) := by
  have h1 := logic_ok op
  have h2 := containsI_ok l 75 [] (fun u => !decide (u = 4)) (by omega) (fun x _ => odd_ok x)
  have h4 := pair_ok op (nth l 0) (nth l 1)
  generalize hr : joinF op l = r
  unfold joinF at hr
  generalize logicF op = b1 at *
  generalize (l.any fun u => !decide (u = 4)) = b2 at *
  generalize pairF op (nth l 0) (nth l 1) = q at *
  refine ACalls.of_W (qs := [cI r]) [4] 44 Try.func64 (by kernel_rfl) rfl rfl rfl fun G => ?_
  refine W.initA (hw := ?_)
  repeat' (first | ((first | apply U_ | (apply Ug_; exact rfl; exact rfl) | (apply Ugq_; exact rfl; exact rfl) | apply Lex.u | (apply Lex.g; exact rfl; exact rfl) | (apply Lex.gq; exact rfl; exact rfl)); (first | exact QX.B TYok | exact QX.Len TYok | exact QX.Idx TYok | exact QCd (h1) | exact QCd (h2) | exact QCd (h4)); exact rfl) | refine SC ?_ | (apply S_isnil TYok; exact rfl; exact rfl; exact rfl; exact Ev.auto; intro bn hnil) | (apply RG.gT; exact rfl; exact rfl; (first | assumption | decide)) | (apply RG.gF; exact rfl; exact rfl; (first | assumption | decide | (rw [ne_eq, Bool.not_eq_true]; assumption) | (rw [ne_eq, Bool.not_eq_false]; assumption)); exact rfl) | (apply W.draw2 (id := 6) [0, 1, 3, 7, 15, 31, 63, 127, 31, 287, 799, 2047, 4095] [[1], [16], [17], [18], [19], [1, 20], [21, 20], [22, 20], [1, 20], [24, 20], [25, 20], [23, 26, 20], [20, 27]] 13 [(16, 2), (17, 65536), (18, 131072), (19, 262144), (20, 524288), (21, 1048578), (22, 3145728), (23, 5242880), (24, 1048578), (25, 17825792), (26, 34603008), (27, 76546048), (28, 135266304)] mixed (by kernel_rfl) rfl rfl) | (apply W.draw2 (id := 9) [0, 0, 2, 6, 0, 16, 48, 127, 255] [[0], [1], [37], [38], [1], [40], [41], [36, 39, 42], [43]] 9 [(36, 1), (37, 2), (38, 137438953472), (39, 274877906944), (40, 2), (41, 1099511627776), (42, 2199023255552), (43, 5016521801728), (4, 8796093022208)] mixed (by kernel_rfl) rfl rfl) | (refine W.condA (ht := fun hb => ?_) (hf := fun hb => ?_) <;> (try simp at hb) <;> (try (exfalso; omega))))
  all_goals first
    | (refine Fin.ret (ResL.cons rfl rfl (PSub.of_eq ?_) ResL.nil); congr 2; rw [← hr]; clear hr; (repeat' split) <;> first | rfl | (exfalso; omega) | (exfalso; simp_all; done) | (exfalso; simp_all; omega))
    | trace_state
end
end Go.Proofs.Ytppdbmobcfedcaa
end
section
set_option linter.unusedVariables false
set_option linter.unusedSimpArgs false
namespace Lf
open Go Go.RowKit
abbrev MNode := List Bool × List (Nat × Nat)
section
variable {P : Program} {G : Ghost} {ops : Array Oper} {Ss : List St} {Q : St → Prop}
theorem count_setM : ∀ {L : List Bool} {i : Nat}, L.getD i true = false → (L.set i true).count false + 1 = L.count false
  | [], i, h => by simp at h
  | b :: L, 0, h => by simp at h; subst h; simp
  | b :: L, i + 1, h => by
    have := count_setM (L := L) (i := i) (by simpa using h)
    simp only [List.set_cons_succ, List.count_cons]; omega
end
theorem Le.get {A B : St} (hn : B.n = A.n) (he : ∀ t q v, lk B.env t = some (q, v) → lk A.env t = some (q, v) ∧ NameOK A.blks B.blks v) (hb : ∀ n C, lk B.blks n = some C → lk A.blks n = some C) : Le A B := fun G Φ β a w hs => by
  refine ⟨Φ, β, Φ.le_refl, hs.kept, hs.fits, hs.old, by rw [hn]; exact hs.siz, hs.dfr, fun t q v h => ?_, fun n C b cap h1 h2 => hs.blk n C b cap (hb _ _ h1) h2, fun n C h1 h2 => hs.vir n C (hb _ _ h1) h2, fun n n' C C' b c c' h1 h2 h3 h4 => hs.inj n n' C C' b c c' (hb _ _ h1) (hb _ _ h2) h3 h4⟩
  obtain ⟨h1, h2⟩ := he t q v h
  refine ⟨fun hq => ?_, (hs.env t q v h1).2⟩
  have h3 := (hs.env t q v h1).1 hq
  cases v with
  | pv p => exact h3
  | tup l => exact h3
  | top => trivial
  | addr n i off =>
    obtain ⟨b, cap, C, g1, g2, g3⟩ := h3
    exact ⟨b, cap, C, g1, by rw [show lk B.blks n = lk A.blks n from h2]; exact g2, g3⟩
  | slc n =>
    obtain ⟨C, g2, g3⟩ := h3
    exact ⟨C, by rw [show lk B.blks n = lk A.blks n from h2]; exact g2, g3⟩
  | mp n =>
    obtain ⟨b, cap, C, g1, g2, g3⟩ := h3
    exact ⟨b, cap, C, g1, by rw [show lk B.blks n = lk A.blks n from h2]; exact g2, g3⟩
  | mpn n bb =>
    obtain ⟨b, cap, C, g1, g2, g3⟩ := h3
    exact ⟨b, cap, C, g1, by rw [show lk B.blks n = lk A.blks n from h2]; exact g2, g3⟩
  | itr d n =>
    obtain ⟨b, cap, C, M, c, g1, g2, g3, g4, g5, g6⟩ := h3
    exact ⟨b, cap, C, M, c, g1, by rw [h2.1]; exact g2, g3, g4, by rw [h2.2]; exact g5, g6⟩
  | pin n b0 c0 f =>
    obtain ⟨C, g1, g2, g3⟩ := h3
    exact ⟨C, g1, by rw [show lk B.blks n = lk A.blks n from h2]; exact g2, g3⟩
def SubEK (A : St) (bl' : List (Nat × Blk)) : List Nat → List (Nat × (Prop × AV)) → Prop
  | _, [] => True
  | seen, (t, (q, v)) :: r => (t ∈ seen ∨ (lk A.env t = some (q, v) ∧ NameOK A.blks bl' v)) ∧ SubEK A bl' (t :: seen) r
def SubBK (A : St) : List Nat → List (Nat × Blk) → Prop
  | _, [] => True
  | seen, (n, B) :: r => (n ∈ seen ∨ lk A.blks n = some B) ∧ SubBK A (n :: seen) r
theorem SubEK.get {A : St} {bl' : List (Nat × Blk)} : ∀ {env : List (Nat × (Prop × AV))} {seen : List Nat}, SubEK A bl' seen env → ∀ t q v, t ∉ seen → lk env t = some (q, v) → lk A.env t = some (q, v) ∧ NameOK A.blks bl' v
  | [], _, _, t, q, v, _, h => by simp [lk] at h
  | (s, (q0, v0)) :: r, seen, hs, t, q, v, hns, h => by
    rw [lk_cons] at h
    split at h
    · rename_i e; subst e
      simp only [Option.some.injEq, Prod.mk.injEq] at h
      obtain ⟨rfl, rfl⟩ := h
      rcases hs.1 with h1 | h1
      · exact absurd h1 hns
      · exact h1
    · rename_i e
      exact SubEK.get hs.2 t q v (fun hm => (List.mem_cons.1 hm).elim (fun q => e q.symm) hns) h
theorem SubBK.get {A : St} : ∀ {bl : List (Nat × Blk)} {seen : List Nat}, SubBK A seen bl → ∀ n B, n ∉ seen → lk bl n = some B → lk A.blks n = some B
  | [], _, _, n, B, _, h => by simp [lk] at h
  | (m, B0) :: r, seen, hs, n, B, hns, h => by
    rw [lk_cons] at h
    split at h
    · rename_i e; subst e
      obtain rfl := Option.some.inj h
      rcases hs.1 with h1 | h1
      · exact absurd h1 hns
      · exact h1
    · rename_i e
      exact SubBK.get hs.2 n B (fun hm => (List.mem_cons.1 hm).elim (fun q => e q.symm) hns) h
theorem Le.st {A : St} {n : Nat} {env : List (Nat × (Prop × AV))} {bl : List (Nat × Blk)} (hn : n = A.n) (he : SubEK A bl [] env) (hb : SubBK A [] bl) : Le A (St.mk n env bl) :=
  Le.get (B := St.mk n env bl) hn (fun t q v h => he.get t q v (by simp) h) (fun n B h => hb.get n B (by simp) h)
theorem SubEK.nil {A : St} {bl : List (Nat × Blk)} {seen : List Nat} : SubEK A bl seen [] := trivial
theorem SubEK.one {A : St} {bl : List (Nat × Blk)} {seen : List Nat} {t : Nat} {q : Prop} {v : AV} {r : List (Nat × (Prop × AV))} (h : lk A.env t = some (q, v)) (hn : NameOK A.blks bl v) (hr : SubEK A bl (t :: seen) r) : SubEK A bl seen ((t, (q, v)) :: r) := ⟨.inr ⟨h, hn⟩, hr⟩
theorem SubEK.skip {A : St} {bl : List (Nat × Blk)} {seen : List Nat} {t : Nat} {e : Prop × AV} {r : List (Nat × (Prop × AV))} (h : seen.any (Nat.beq t) = true) (hr : SubEK A bl (t :: seen) r) : SubEK A bl seen ((t, e) :: r) := ⟨.inl (by
  obtain ⟨x, hx, he⟩ := List.any_eq_true.1 h
  rw [Nat.eq_of_beq_eq_true he]; exact hx), hr⟩
theorem SubBK.nil {A : St} {seen : List Nat} : SubBK A seen [] := trivial
theorem SubBK.one {A : St} {seen : List Nat} {n : Nat} {B : Blk} {r : List (Nat × Blk)} (h : lk A.blks n = some B) (hr : SubBK A (n :: seen) r) : SubBK A seen ((n, B) :: r) := ⟨.inr h, hr⟩
theorem SubBK.skip {A : St} {seen : List Nat} {n : Nat} {B : Blk} {r : List (Nat × Blk)} (h : seen.any (Nat.beq n) = true) (hr : SubBK A (n :: seen) r) : SubBK A seen ((n, B) :: r) := ⟨.inl (by
  obtain ⟨x, hx, he⟩ := List.any_eq_true.1 h
  rw [Nat.eq_of_beq_eq_true he]; exact hx), hr⟩
attribute [irreducible] SubEK SubBK
end Lf
end
section
set_option linter.unusedVariables false
set_option linter.unusedSimpArgs false
set_option linter.unusedSectionVars false
namespace Lf
open Go Go.RowKit
section
/-- what is known of a panic: how its value reads, and a state that fits -/
structure PK where
  c : Cell
  q : St → Prop
abbrev PK.any (c : Cell) : PK := ⟨c, fun _ => True⟩
variable {P : Program} {G : Ghost} {A : St} {c0 : PK} {Q : Exit → St → Prop}
/-- the exit by a panic with an interface value that reads so -/
def PanX (G : Ghost) (c0 : PK) (Φ : Frz) (e : Exit) (a : Act) (w : World) : Prop :=
  ∃ v Φ', e = .panic [{ v, recovered := false }] ∧ Rel Φ' v c0.c ∧ Φ.le Φ' ∧ ∃ β' A', c0.q A' ∧ Sat G Φ' β' A' a w
theorem PanX.mono {Φ Φ0 : Frz} {e : Exit} {a : Act} {w : World} (hl : Φ0.le Φ) (h : PanX G c0 Φ e a w) : PanX G c0 Φ0 e a w :=
  let ⟨v, Φ', h1, h2, h3, h4⟩ := h
  ⟨v, Φ', h1, h2, Frz.le_trans hl h3, h4⟩
theorem Sat.none {Φ : Frz} {β : Own} {a a' : Act} {w : World} (hs : Sat G Φ β A a w) (hd : a'.defers = a.defers) : Sat G Φ β ⟨0, [], []⟩ a' w :=
  ⟨hs.kept, hs.fits, hs.old, Nat.zero_le _, hd.trans hs.dfr, fun t q v h => by simp [lk] at h, fun n B b cap h => by simp [lk] at h, fun n B h => by simp [lk] at h, fun n n' B B' b c c' h => by simp [lk] at h⟩
/-- THE JUDGEMENT of code that may panic -/
def WP (P : Program) (G : Ghost) (c0 : PK) (c : Code) (Q : Exit → St → Prop) (A : St) : Prop :=
  ∀ Φ β a w, Sat G Φ β A a w → c.wp P (fun e a' w' => (∃ A' Φ' β', Q e A' ∧ Sat G Φ' β' A' a' w' ∧ Φ.le Φ') ∨ PanX G c0 Φ e a' w') a w
theorem WP.of_W {c : Code} (h : W P G c Q A) : WP P G c0 c Q A := fun Φ β a w hs => wp_mono (h Φ β a w hs) fun _ _ _ h => .inl h
theorem WP.mono {c : Code} {Q' : Exit → St → Prop} (h : WP P G c0 c Q A) (hq : ∀ e A, Q e A → Q' e A) : WP P G c0 c Q' A := fun Φ β a w hs =>
  wp_mono (h Φ β a w hs) fun _ _ _ h => h.elim (fun ⟨A', Φ', β', q, r⟩ => .inl ⟨A', Φ', β', hq _ _ q, r⟩) .inr
theorem WP.weaken {c : Code} {B : St} (hl : Le A B) (h : WP P G c0 c Q B) : WP P G c0 c Q A := fun Φ β a w hs =>
  let ⟨Φ1, β', hle, hs'⟩ := hl G Φ β a w hs
  wp_mono (h Φ1 β' a w hs') fun _ _ _ h => h.elim (fun ⟨A', Φ', β', q, r, l⟩ => .inl ⟨A', Φ', β', q, r, Frz.le_trans hle l⟩) fun hp => .inr (hp.mono hle)
theorem WP.seq {x y : Code} (h : WP P G c0 x (Then (WP P G c0 y Q) Q) A) : WP P G c0 (.seq x y) Q A := fun Φ β a w hs =>
  wp_seq (wp_mono (h Φ β a w hs) fun e a1 w1 hh => by
    rcases hh with ⟨A1, Φ1, β1, q, s, l⟩ | hp
    · cases e with
      | normal =>
        refine wp_mono (q Φ1 β1 a1 w1 s) fun e2 a2 w2 hh2 => ?_
        rcases hh2 with ⟨A2, Φ2, β2, q2, s2, l2⟩ | hp
        · exact .inl ⟨A2, Φ2, β2, q2, s2, Frz.le_trans l l2⟩
        · exact .inr (hp.mono l)
      | exit id => exact .inl ⟨A1, Φ1, β1, q, s, l⟩
      | goto id => exact .inl ⟨A1, Φ1, β1, q, s, l⟩
      | ret => exact .inl ⟨A1, Φ1, β1, q, s, l⟩
      | panic c => exact .inl ⟨A1, Φ1, β1, q, s, l⟩
      | outgrown => exact .inl ⟨A1, Φ1, β1, q, s, l⟩
    · obtain ⟨v, Φ', rfl, hr⟩ := hp
      exact .inr ⟨v, Φ', rfl, hr⟩)
theorem WP.block {id : Nat} {c : Code} (h : WP P G c0 c (InBlock id Q) A) : WP P G c0 (.block id c) Q A := fun Φ β a w hs =>
  wp_block (wp_mono (h Φ β a w hs) fun e a1 w1 hh => by
    rcases hh with ⟨A1, Φ1, β1, q, s, l⟩ | hp
    · cases e with
      | exit i =>
        simp only [Exit.inBlock]
        simp only [InBlock] at q
        split <;> rename_i hi
        · rw [if_pos hi] at q; exact .inl ⟨A1, Φ1, β1, q, s, l⟩
        · rw [if_neg hi] at q; exact .inl ⟨A1, Φ1, β1, q, s, l⟩
      | normal => exact .inl ⟨A1, Φ1, β1, q, s, l⟩
      | goto id => exact .inl ⟨A1, Φ1, β1, q, s, l⟩
      | ret => exact .inl ⟨A1, Φ1, β1, q, s, l⟩
      | panic c => exact .inl ⟨A1, Φ1, β1, q, s, l⟩
      | outgrown => exact .inl ⟨A1, Φ1, β1, q, s, l⟩
    · obtain ⟨v, Φ', rfl, hr⟩ := hp
      exact .inr ⟨v, Φ', rfl, hr⟩)
theorem WP.cond {c : Operand} {x y : Code} {b : Bool} (hc : Ev A True c (.pv (.one (.bool b)))) (ht : b = true → WP P G c0 x Q A) (hf : b = false → WP P G c0 y Q A) :
    WP P G c0 (.cond c x y) Q A := fun Φ β a w hs =>
  wp_cond_split (t := b) (AVRel.bool (hs.ev hc trivial)) (fun h => ht h Φ β a w hs) (fun h => hf h Φ β a w hs)
theorem WP.loop {σ : Type _} {c : Code} (I : σ → St) (μ : σ → Nat) (s0 : σ) (h0 : Le A (I s0))
    (round : ∀ s, WP P G c0 c (Then (fun A' => ∃ s', Le A' (I s') ∧ μ s' < μ s) Q) (I s)) : WP P G c0 (.loop c) Q A := by
  intro Φ β a w hs b k cs
  obtain ⟨Φ0, β0, hle0, hs0⟩ := h0 G Φ β a w hs
  have key : ∀ (n : Nat) (s : σ), μ s = n → ∀ Φ β a w, Sat G Φ β (I s) a w →
      ∃ e a' w', ((∃ A' Φ' β', Q e A' ∧ Sat G Φ' β' A' a' w' ∧ Φ.le Φ') ∨ PanX G c0 Φ e a' w') ∧ Arrives P (lone (b.at a (.code c :: .inLoop c :: k)) cs w) b k cs e a' w' := by
    intro n
    induction n using Nat.strongRecOn with
    | _ n ih =>
      intro s hn Φ β a w hs
      obtain ⟨e, a1, w1, hh, harr⟩ := round s Φ β a w hs b (.inLoop c :: k) cs
      rcases hh with ⟨A1, Φ1, β1, q, s1, l1⟩ | hp
      · cases e with
        | normal =>
          obtain ⟨s', hle, hlt⟩ := q
          obtain ⟨Φ2, β2, hle2, hs2⟩ := hle G Φ1 β1 a1 w1 s1
          obtain ⟨e2, a2, w2, hh2, harr2⟩ := ih (μ s') (hn ▸ hlt) s' rfl Φ2 β2 a1 w1 hs2
          refine ⟨e2, a2, w2, ?_, .of_steps (Steps.trans harr (.one step_inLoop)) harr2⟩
          rcases hh2 with ⟨A2, Φ3, β2', q2, s2, l2⟩ | hp
          · exact .inl ⟨A2, Φ3, β2', q2, s2, Frz.le_trans l1 (Frz.le_trans hle2 l2)⟩
          · exact .inr (hp.mono (Frz.le_trans l1 hle2))
        | exit id => exact ⟨_, a1, w1, .inl ⟨A1, Φ1, β1, q, s1, l1⟩, .pass (x := .inLoop c) rfl (fun _ _ => .inl (by simp)) harr⟩
        | goto l => exact ⟨_, a1, w1, .inl ⟨A1, Φ1, β1, q, s1, l1⟩, .pass (x := .inLoop c) rfl (fun _ _ => .inl (by simp)) harr⟩
        | ret => exact ⟨_, a1, w1, .inl ⟨A1, Φ1, β1, q, s1, l1⟩, .pass (x := .inLoop c) rfl (fun _ _ => .inl (by simp)) harr⟩
        | panic ch => exact ⟨_, a1, w1, .inl ⟨A1, Φ1, β1, q, s1, l1⟩, .pass (x := .inLoop c) rfl (fun _ _ => .inl (by simp)) harr⟩
        | outgrown => exact ⟨_, a1, w1, .inl ⟨A1, Φ1, β1, q, s1, l1⟩, .pass (x := .inLoop c) rfl (fun _ _ => .inl (by simp)) harr⟩
      · obtain ⟨v, Φ', rfl, hr⟩ := hp
        exact ⟨_, a1, w1, .inr ⟨v, Φ', rfl, hr⟩, .pass (x := .inLoop c) rfl (fun _ _ => .inl (by simp)) harr⟩
  obtain ⟨e, a', w', hh, harr⟩ := key _ s0 rfl Φ0 β0 a w hs0
  refine ⟨e, a', w', ?_, .of_steps (.one step_loop) harr⟩
  rcases hh with ⟨A', Φ', β', q, r, l⟩ | hp
  · exact .inl ⟨A', Φ', β', q, r, Frz.le_trans hle0 l⟩
  · exact .inr (hp.mono hle0)
theorem WP.loopP {c : Code} {σ : Type _} (n : Nat) (keep : List Nat) (inv : σ → Prop) (f : σ → List (Nat × (Prop × AV))) (bl : σ → List (Nat × Blk)) (μ : σ → Nat) (s0 : σ) {E : List (Nat × (Prop × AV))} (hp : Pick A keep E)
    (h0 : inv s0 ∧ Le A (mkSt n (f s0) E (bl s0))) (round : ∀ s, inv s → WP P G c0 c (Then (fun A' => ∃ s', inv s' ∧ Le A' (mkSt n (f s') E (bl s')) ∧ μ s' < μ s) Q) (mkSt n (f s) E (bl s))) : WP P G c0 (.loop c) Q A := by
  refine WP.loop (σ := { s : σ // inv s }) (fun s => mkSt n (f s.1) E (bl s.1)) (fun s => μ s.1) ⟨s0, h0.1⟩ h0.2 fun s => ?_
  refine WP.mono (round s.1 s.2) fun e A' h => ?_
  cases e with
  | normal => obtain ⟨s', h1, h2, h3⟩ := h; exact ⟨⟨s', h1⟩, h2, h3⟩
  | exit id => exact h
  | goto id => exact h
  | ret => exact h
  | panic c => exact h
  | outgrown => exact h
theorem WP.norm {c : Code} {n : Nat} {f E env : List (Nat × (Prop × AV))} {bl : List (Nat × Blk)} (h : App f E env) (hw : WP P G c0 c Q (St.mk n env bl)) : WP P G c0 c Q (mkSt n f E bl) := by
  unfold App at h; subst h; exact hw
theorem WP.init {c : Code} {n : Nat} {args : List PV} {env : List (Nat × (Prop × AV))} (h : InitE args 0 env) (hw : WP P G c0 c Q (St.mk n env [])) : WP P G c0 c Q (St.init n args) := by
  unfold InitE at h; subst h; exact hw
theorem WP.condA {c : Operand} {x y : Code} {b : Bool} {Q : Exit → St → Prop} (hc : Ev A True c (.pv (.one (.bool b))) := by refine Ev.of rfl ?_; first | exact fun _ => ⟨⟩ | exact id | exact And.right | exact And.left | exact (·.1.2) | exact (·.1.1) | exact (·.1.1.1) | exact (·.1.1.2) | exact fun _ => by assumption | exact fun _ => rfl) (ht : b = true → WP P G c0 x Q A) (hf : b = false → WP P G c0 y Q A) : WP P G c0 (.cond c x y) Q A := WP.cond hc ht hf
theorem WP.initA {Q : Exit → St → Prop} {c : Code} {n : Nat} {args : List PV} {env : List (Nat × (Prop × AV))} (h : InitE args 0 env := by first | ((repeat (first | exact InitE.nil | apply InitE.c0 | apply InitE.c1 | apply InitE.c2 | apply InitE.c3 | apply InitE.c4 | apply InitE.c5 | apply InitE.c6 | apply InitE.c7 | apply InitE.c8 | apply InitE.c9 | apply InitE.c10 | apply InitE.c11)); done) | fail) (hw : WP P G c0 c Q (St.mk n env [])) : WP P G c0 c Q (St.init n args) := WP.init h hw
/-- an operation that leaves by a panic -/
def PanOp (P : Program) (G : Ghost) (c0 : PK) (A : St) (o : Oper) : Prop :=
  ∀ Φ β a w, Sat G Φ β A a w → o.wp P a w (fun _ _ => False) (fun e a' w' => PanX G c0 Φ e a' w')
theorem wp_outs {o : Oper} {a : Act} {w : World} {K : Act → World → Prop} {Q1 Q2 : Exit → Act → World → Prop} (h : o.wp P a w (fun _ _ => False) Q1) (hq : ∀ e a w, Q1 e a w → Q2 e a w) : o.wp P a w K Q2 :=
  Oper.wp_mono' h (fun _ _ h => h.elim) hq
theorem wpList_app {ops : Array Oper} {Q' : Exit → Act → World → Prop} {suf : List Oper} : ∀ (pre : List Oper) (a : Act) (w : World),
    wpList P ops (fun e a w => match e with | .normal => wpList P ops Q' suf a w | e => Q' e a w) pre a w → wpList P ops Q' (pre ++ suf) a w
  | [], a, w, h => h
  | o :: pre, a, w, h => by
    unfold wpList at h
    rw [List.cons_append]
    unfold wpList
    split
    · rename_i hw
      rw [if_pos hw] at h
      rcases h with h | ⟨h1, a0, w0, h2⟩
      · refine .inl ?_
        unfold Oper.wp at *
        revert h
        generalize (execOp a.eval o).run P w = r
        intro h
        cases r with
        | ok n w' =>
          cases n <;> simp only [Oper.upon] at h ⊢ <;>
            first
              | exact wpList_app pre _ _ h
              | exact Calls.mono h (fun e w'' he => by
                  cases e <;> first
                    | exact wpList_app pre _ _ he
                    | exact he
                    | (obtain ⟨a0, w0, h0⟩ := he; exact ⟨a0, w0, h0⟩))
              | exact Rows.mono h (fun _ _ he => wpList_app pre _ _ he)
        | halt x w' => cases x <;> simp only [Oper.upon] at h ⊢ <;> exact h
      · exact .inr ⟨h1, a0, w0, h2⟩
    · rename_i hw
      rw [if_neg hw] at h
      exact wpList_app pre _ _ h
/-- a region whose last operation panics -/
theorem WP.regionP {id : Nat} {l pre suf : List Oper} {o : Oper} (hl : l = pre ++ o :: suf) (hg : o.guard = none) (h : RG P G l.toArray pre (fun A' => PanOp P G c0 A' o) A) : WP P G c0 (.region id l.toArray false) Q A := fun Φ β a w hs => by
  refine wp_region_lit ?_
  have key : wpList P l.toArray (fun e a' w' => (∃ A' Φ' β', Q e A' ∧ Sat G Φ' β' A' a' w' ∧ Φ.le Φ') ∨ PanX G c0 Φ e a' w') (pre ++ o :: suf) a w := by
    refine wpList_app pre a w (h Φ β a w hs _ fun A1 Φ1 β1 a1 w1 q s l1 => ?_)
    exact wpList_plain hg fun K hK => wp_outs (q Φ1 β1 a1 w1 s) fun e a2 w2 hp => .inr (hp.mono l1)
  have e : wpList P l.toArray (fun e a' w' => (∃ A' Φ' β', Q e A' ∧ Sat G Φ' β' A' a' w' ∧ Φ.le Φ') ∨ PanX G c0 Φ e a' w') l a w := by
    have : ∀ l2, l2 = l → wpList P l.toArray (fun e a' w' => (∃ A' Φ' β', Q e A' ∧ Sat G Φ' β' A' a' w' ∧ Φ.le Φ') ∨ PanX G c0 Φ e a' w') l2 a w → wpList P l.toArray (fun e a' w' => (∃ A' Φ' β', Q e A' ∧ Sat G Φ' β' A' a' w' ∧ Φ.le Φ') ∨ PanX G c0 Φ e a' w') l a w := fun l2 h2 h3 => h2 ▸ h3
    exact this _ hl.symm key
  exact e
theorem PanOp.panic {x : Operand} {ty : TypeId} {pos : String} {after : Array Edge} {gd : Option (Nat × Bool)} {dst : Option Nat} {t : Nat} {cs : List Cell} {q : St → Prop} (hx : Ev A True x (.pv (.one (.iface t cs)))) (hq : q A) : PanOp P G ⟨.iface t cs, q⟩ A ⟨dst, .panic x, ty, pos, after, gd⟩ := fun Φ β a w hs => by
  have h : Rel Φ (a.eval x) (.iface t cs) := hs.ev hx trivial
  obtain ⟨v, hv⟩ : ∃ v, a.eval x = .iface t v := by
    generalize a.eval x = u at h
    cases h with
    | iface1 t v c hv => exact ⟨_, rfl⟩
    | ifaceN t vs cs g h1 h2 h3 h4 => exact ⟨_, rfl⟩
  unfold Oper.wp
  have e : (execOp a.eval ⟨dst, .panic x, ty, pos, after, gd⟩).run P w = .halt (.panic (.iface t v)) w := by
    simp only [execOp, hv]; rfl
  rw [e]
  exact ⟨_, Φ, rfl, hv ▸ h, Φ.le_refl, β, A, hq, hs⟩
/-- a value of a struct type as1 an interface value -/
theorem Q_makeI {T : TT} {x : Operand} {p : Prop} {n0 : Nat} {env : List (Nat × (Prop × AV))} {bl : List (Nat × Blk)} {dst : Option Nat} {ty : TypeId} {pos : String} {after : Array Edge} {gd : Option (Nat × Bool)} {t : Nat} {ti : TI} {cs : List Cell} {fs : List (Nat × Nat)}
    (hT : TOK P T) (ht : T t = some ti) (hk : ti.kind = .struct fs) (hx : Ev (St.mk n0 env bl) p x (.pv (.agg cs))) (h2 : Nat.ble 2 cs.length = true) :
    PureOp P G (St.mk n0 env bl) ⟨dst, .makeInterface t x, ty, pos, after, gd⟩ p (.pv (.one (.iface t cs))) := PureOp.val fun Φ β a w hs hp => by
  obtain ⟨arr, hv, hr⟩ : PRel Φ (a.eval x) (.agg cs) := hs.ev hx hp
  obtain ⟨sfs, hu, _⟩ : ∃ fields, P.underlying t = some (.struct fields) ∧ fields.toList.map (fun f => (f.offset, f.type)) = fs := by
    have := (hT t ti ht).kind
    rw [hk] at this
    exact this
  refine ⟨.iface t (.agg arr), ?_, ?_⟩
  · rw [exec_val (m := Instr.makeInterface t (a.eval x)) (by simp only [execOp]) (v := .iface t (a.eval x)) (w' := w) ?_, hv]
    simp [Instr.makeInterface, run_underlying hu]
  · refine Rel.ifaceN t arr cs (fun j => arr.getD j undef) ?_ (Nat.le_of_ble_eq_true h2) (fun j c hj => ?_) (fun j c hj => ?_)
    · have := hr.length; simpa using this
    · obtain ⟨u, h1, _⟩ := hr.get hj
      have : arr[j]? = some u := by simpa using h1
      rw [this, Array.getD_eq_getD_getElem?, this]; rfl
    · obtain ⟨u, h1, h3⟩ := hr.get hj
      have : arr[j]? = some u := by simpa using h1
      rw [Array.getD_eq_getD_getElem?, this]; exact h3
structure PanCalls (P : Program) (f : FuncId) (args : List PV) (c : Cell) : Prop where
  fn : FnOK P f
  calls : ∀ Φ w vs, Fits Φ w → ArgsRel Φ vs args → Calls P f vs w (fun e w' => ∃ v Φ', e = .panicked [{ v, recovered := false }] ∧ Rel Φ' v c ∧ Φ.le Φ' ∧ (∀ b, b < w.heap.size → Φ' b = Φ b) ∧ Fits Φ' w' ∧ Below w.heap.size w w')
theorem PanCalls.of_WP {f : FuncId} {fn : Func} {c : Code} {args : List PV} {cc : Cell} (n : Nat) (hf : P.funcs[f]? = some fn) (hn : (fn.name == "runtime.NumGoroutine") = false) (hb : fn.body = some c)
    (hnt : fn.ntmps = n) (h : ∀ G, WP P G (PK.any cc) c (fun _ _ => False) (St.init n args)) : PanCalls P f args cc where
  fn := ⟨fn, hf, hn, by rw [hb]; rfl⟩
  calls := fun Φ w vs hfit harg => by
    subst hnt
    refine calls_of_wp hf hb (wp_mono (h _ Φ (fun _ => none) _ w (sat_init (f := f) rfl hfit harg)) fun e a' w' hh => ?_)
    rcases hh with ⟨_, _, _, hF, _⟩ | ⟨v, Φ', rfl, h1, h2, β', A', _, hs⟩
    · exact hF.elim
    · exact ⟨hs.dfr, v, Φ', rfl, h1, h2, fun b hb => hs.old b hb, hs.fits, ⟨hs.kept.os, hs.kept.tape, hs.kept.output, hs.kept.size, hs.kept.block⟩⟩
theorem PanOp.call {f : FuncId} {xs : List Operand} {ats : Array TypeId} {ps : List PV} {ty : TypeId} {pos : String} {after : Array Edge} {gd : Option (Nat × Bool)} {dst : Option Nat} {cc : Cell} {q : St → Prop} (hc : PanCalls P f ps cc) (hx : EvD A True xs ps) (hq0 : q A) :
    PanOp P G ⟨cc, q⟩ A ⟨dst, .call ⟨.value (.func f), xs.toArray, ats⟩, ty, pos, after, gd⟩ := fun Φ β a w hs => by
  unfold Oper.wp
  rw [call_run rfl hc.fn]
  refine Calls.mono (hc.calls Φ w _ hs.fits ⟨by simp [evd_len hx], fun j q hq => ?_⟩) ?_
  · obtain ⟨x, h1, h2⟩ := evd_args hs trivial hx j q hq
    exact ⟨a.eval x, by simp [h1], h2⟩
  · rintro e w' ⟨v, Φ', rfl, hv, hle, heq, hfit, hb⟩
    exact ⟨v, Φ', rfl, hv, hle, β, A, hq0, hs.below hle heq hfit hb⟩
/-- own slices among the arguments -/
theorem PanOp.calll {f : FuncId} {xs : List Operand} {ats : Array TypeId} {ps : List PV} {ty : TypeId} {pos : String} {after : Array Edge} {gd : Option (Nat × Bool)} {dst : Option Nat} {cc : Cell} (hc : PanCalls P f ps cc) (hx : EvL A True xs ps) :
    PanOp P G (PK.any cc) A ⟨dst, .call ⟨.value (.func f), xs.toArray, ats⟩, ty, pos, after, gd⟩ := fun Φ β a w hs => by
  unfold Oper.wp
  rw [call_run rfl hc.fn]
  refine Calls.mono (hc.calls (frzAll Φ β A.blks w) w _ hs.frz_fits ⟨by simp [evl_len hx], fun j q hq => ?_⟩) ?_
  · obtain ⟨x, h1, h2⟩ := evl_args hs trivial hx j q hq
    exact ⟨a.eval x, by simp [h1], h2⟩
  · rintro e w' ⟨v, Φ', rfl, hv, hle, heq, hfit, hb⟩
    refine ⟨v, Φ', rfl, hv, Frz.le_trans hs.frz_le hle, β, ⟨0, [], []⟩, trivial, hs.kept.below hb, hfit, fun b hk => ?_, Nat.zero_le _, hs.dfr, fun t q v h => by simp [lk] at h, fun n B b cap h => by simp [lk] at h, fun n B h => by simp [lk] at h, fun n n' B B' b c c' h => by simp [lk] at h⟩
    rw [heq b (Nat.lt_of_lt_of_le (G.lt b hk) hs.kept.size)]
    have hno : ¬ ownedBy β A.blks b := fun ⟨n, B, cap, h1, h2⟩ => (hs.blk n B b cap h1 h2).2.1 hk
    unfold frzAll
    rw [if_neg hno]
    exact hs.old b hk
section
variable {ops : Array Oper} {Ss : List St} {p : Nat}
def MGP (P : Program) (G : Ghost) (c0 : PK) (ops : Array Oper) (Ss : List St) (p : Nat) : List (Nat × Nat) → St → Prop
  | [], _ => True
  | (i, t) :: r, S => ((i = p ∧ ∃ o, ops[i]? = some o ∧ o.guard = none ∧ PanOp P G c0 S o) ∨ (i ≠ p ∧ ∃ o S', ops[i]? = some o ∧ Ss[t]? = some S' ∧ RG P G ops [o] (fun A' => Le A' S') S)) ∧ MGP P G c0 ops Ss p r S
def MNP (P : Program) (G : Ghost) (c0 : PK) (ops : Array Oper) (Ss : List St) (p : Nat) : List MNode → List St → Prop
  | (_, es) :: r, S :: Sr => MGP P G c0 ops Ss p es S ∧ MNP P G c0 ops Ss p r Sr
  | _, _ => True
theorem MGP.nil {S : St} : MGP P G c0 ops Ss p [] S := trivial
theorem MGP.cons {i t : Nat} {o : Oper} {S S' : St} {es : List (Nat × Nat)} (hi : Nat.beq i p = false) (ho : ops[i]? = some o) (hS : Ss[t]? = some S') (h : RG P G ops [o] (fun A' => Le A' S') S) (h' : MGP P G c0 ops Ss p es S) : MGP P G c0 ops Ss p ((i, t) :: es) S :=
  ⟨.inr ⟨fun e => (by subst e; rw [Nat.beq_refl] at hi; cases hi), o, S', ho, hS, h⟩, h'⟩
theorem MGP.pan {t : Nat} {o : Oper} {S : St} {es : List (Nat × Nat)} (ho : ops[p]? = some o) (hg : o.guard = none) (h : PanOp P G c0 S o) (h' : MGP P G c0 ops Ss p es S) : MGP P G c0 ops Ss p ((p, t) :: es) S := ⟨.inl ⟨rfl, o, ho, hg, h⟩, h'⟩
theorem MNP.nil {Sr : List St} : MNP P G c0 ops Ss p [] Sr := by unfold MNP; trivial
theorem MNP.cons {L : List Bool} {es : List (Nat × Nat)} {S : St} {r : List MNode} {Sr : List St} (h : MGP P G c0 ops Ss p es S) (h' : MNP P G c0 ops Ss p r Sr) : MNP P G c0 ops Ss p ((L, es) :: r) (S :: Sr) := ⟨h, h'⟩
theorem MGP.get : ∀ {es : List (Nat × Nat)} {S : St}, MGP P G c0 ops Ss p es S → ∀ i t, (i, t) ∈ es → (i = p ∧ ∃ o, ops[i]? = some o ∧ o.guard = none ∧ PanOp P G c0 S o) ∨ (i ≠ p ∧ ∃ o S', ops[i]? = some o ∧ Ss[t]? = some S' ∧ RG P G ops [o] (fun A' => Le A' S') S)
  | (i0, t0) :: es, S, h, i, t, hm => by
    rcases List.mem_cons.1 hm with e | hm
    · cases e; exact h.1
    · exact MGP.get h.2 i t hm
theorem MNP.get : ∀ {nodes : List MNode} {Sr : List St}, MNP P G c0 ops Ss p nodes Sr → ∀ (k : Nat) (L : List Bool) (es : List (Nat × Nat)) (S : St), nodes[k]? = some (L, es) → Sr[k]? = some S → MGP P G c0 ops Ss p es S
  | (L0, es0) :: r, S0 :: Sr, h, 0, L, es, S, h1, h2 => by
    simp only [List.getElem?_cons_zero, Option.some.injEq, Prod.mk.injEq] at h1 h2
    obtain ⟨rfl, rfl⟩ := h1
    subst h2
    exact h.1
  | (L0, es0) :: r, S0 :: Sr, h, k + 1, L, es, S, h1, h2 => MNP.get h.2 k L es S (by simpa using h1) (by simpa using h2)
  | [], _, _, k, L, es, S, h1, _ => by simp at h1
  | _ :: _, [], _, k, L, es, S, _, h2 => by simp at h2
theorem wpOp_of {o : Oper} {j : Nat} {a : Act} {w : World} {K : Act → World → Prop} {Q' : Exit → Act → World → Prop} (ho : ops[j]? = some o) (h1 : wpList P ops (fun e a' w' => match e with | .normal => K a' w' | e => Q' e a' w') [o] a w) : wpOp P ops Q' j K a w := by
  unfold wpList at h1
  unfold wpOp
  simp only [ho]
  split
  · rename_i hw
    rw [if_pos hw] at h1
    rcases h1 with h1 | ⟨h1, a2, w2, h2⟩
    · refine .inl ?_
      unfold Oper.wp at *
      revert h1
      generalize (execOp a.eval o).run P w = r
      intro h1
      cases r with
      | ok n w' =>
        cases n <;> simp only [Oper.upon] at h1 ⊢ <;>
          first
            | exact h1
            | exact Calls.mono h1 (fun e w'' he => by
                cases e <;> first
                  | exact he
                  | (obtain ⟨a0, w0, h0⟩ := he; exact ⟨a0, w0, h0⟩))
            | exact Rows.mono h1 (fun _ _ he => he)
      | halt x w' => cases x <;> simp only [Oper.upon] at h1 ⊢ <;> exact h1
    · exact .inr ⟨h1, a2, w2, h2⟩
  · rename_i hw
    rw [if_neg hw] at h1
    exact h1
attribute [irreducible] MGP MNP
end
end
end Lf
end
section
set_option linter.unusedVariables false
set_option linter.unusedSimpArgs false
set_option linter.unusedSectionVars false
namespace Lf
open Go Go.RowKit
section
variable {P : Program} {G : Ghost} {Φ : Frz} {β : Own} {a : Act} {w : World}
end
inductive CK where
  | fp (d : Nat) (p : PV)
  | ff (d : Nat) (v : AV) (B : Blk)
  | ch (A : St)
def CK.free : CK → Bool
  | .ch _ => false
  | _ => true
def CK.pair : CK → Option (Nat × (Prop × AV))
  | .fp d p => some (d, (True, .pv p))
  | .ff d v B => some (d, (True, v))
  | .ch _ => none
def CK.blk : CK → Option (Nat × Blk)
  | .ff d v B => some (d, B)
  | _ => none
def CK.step (A : St) : CK → St
  | .fp d p => St.mk A.n ((d, (True, .pv p)) :: A.env) A.blks
  | .ff d v B => St.mk A.n ((d, (True, v)) :: A.env) ((d, B) :: A.blks)
  | .ch A' => A'
def tS (A : St) (ks : List CK) : St := ks.foldl CK.step A
def xs {α : Type _} (f : CK → Option α) (L : Nat → Bool) : Nat → List CK → List α
  | _, [] => []
  | i, k :: r => xs f L (i + 1) r ++ (if L i then (f k).toList else [])
def AV.isPv : AV → Bool
  | .pv _ => true
  | _ => false
structure ChainOk (P : Program) (n : Nat) (ms : List Nat) (ks : List CK) (i : Nat) (o : Oper) (T A' : St) : Prop where
  guard : o.guard = none
  eff : ∀ G, EffOp P G T o A'
  hn : A'.n = n
  keep : ∀ t q p, o.dst ≠ some t → (lk A'.env t = some (q, .pv p) ↔ lk T.env t = some (q, .pv p))
  all : ∀ j, j < i → (ms.getD i 0).testBit j = true
  slots : ∀ j k, i < j → ks[j]? = some k → ∀ d e, k.pair = some (d, e) → lk T.env d = none ∧ lk A'.env d = none ∧ o.dst ≠ some d
  names : ∀ j k, i < j → ks[j]? = some k → ∀ d B, k.blk = some (d, B) → (lk T.blks d = none ∧ lk A'.blks d = none) ∧ (∀ t e, lk T.env t = some e → e.2.ment d = false) ∧ ∀ t e, lk A'.env t = some e → e.2.ment d = false
def StepC (P : Program) (n : Nat) (l : List Oper) (ms : List Nat) (A0 : St) (ks : List CK) (ts : List Nat) (i : Nat) (o : Oper) (T : St) : CK → Prop
  | .fp d p => ((o.dst = some d ∧ o.guard = none ∧ d < n) ∧ (∀ G, PureOp P G (St.mk n (only ts T.env) []) o True (.pv p))) ∧ (∀ t e, lk (only ts T.env) t = some e → e.2.isPv = true) ∧ ∀ t ∈ ts, ∀ (j : Nat) (o' : Oper) (k : CK), l[j]? = some o' → o'.dst = some t → ks[j]? = some k → k.free = true
  | .ff d v B => ((o.dst = some d ∧ o.guard = none ∧ lk A0.blks d = none) ∧ (∀ k, v.ment k = true → k = d) ∧ ∀ G, FreshV P G n (only ts T.env) o d B v) ∧ (∀ t e, lk (only ts T.env) t = some e → e.2.isPv = true) ∧ ∀ t ∈ ts, ∀ (j : Nat) (o' : Oper) (k : CK), l[j]? = some o' → o'.dst = some t → ks[j]? = some k → k.free = true
  | .ch A' => ChainOk P n ms ks i o T A'
section
variable {P : Program} {G : Ghost} {n : Nat} {l : List Oper} {ms : List Nat} {tss : List (List Nat)} {A0 : St} {ks : List CK}
variable (hok : orderOkS l ms tss = true) (hnd : ∀ (j j' : Nat) (o o' : Oper) (d : Nat), l[j]? = some o → l[j']? = some o' → o.dst = some d → o'.dst = some d → j = j') (hA0 : A0.n = n) (hkl : ks.length = l.length)
  (hv : ∀ (i : Nat) (o : Oper) (k : CK), l[i]? = some o → ks[i]? = some k → StepC P n l ms A0 ks (tss.getD i []) i o (tS A0 (ks.take i)) k)
include hA0 hkl hv
end
section
variable {P : Program} {G : Ghost} {n : Nat}
variable {bl0 : List (Nat × Blk)} {cd : List Nat} {rest : List Oper} {i my : Nat} {ts : List Nat} {tss : List (List Nat)} {ms : List Nat} {fd : List (Nat × Bool)} {env : Env} {bl : List (Nat × Blk)} {K : St → Prop} {op : Op} {ty : TypeId} {pos : String} {after : Array Edge}
/-- what is left of the slots, written out -/
def FG (d m : Nat) (l l' : Env) : Prop := fgt d (fgt m l) = l'
theorem FG.nil {d m : Nat} : FG d m [] [] := rfl
theorem FG.keep {d m t : Nat} {q : Prop} {v : AV} {r r' : Env} (h1 : v.ment m = false) (h2 : v.ment d = false) (h : FG d m r r') : FG d m ((t, (q, v)) :: r) ((t, (q, v)) :: r') := by
  have h : fgt d (fgt m r) = r' := h
  show fgt d (fgt m _) = _
  rw [fgt, h1, cond_false, fgt, h2, cond_false, h]
theorem FG.gone {d m t : Nat} {q : Prop} {v : AV} {r r' : Env} (h1 : (v.ment m || v.ment d) = true) (h : FG d m r r') : FG d m ((t, (q, v)) :: r) ((t, (q, .top)) :: r') := by
  have h : fgt d (fgt m r) = r' := h
  show fgt d (fgt m _) = _
  rw [fgt]
  cases hm : v.ment m with
  | true => rw [cond_true, fgt, h]; rfl
  | false =>
    rw [hm, Bool.false_or] at h1
    rw [cond_false, fgt, h1, cond_true, h]
section
variable {T : Nat → Option TI} (hT : TOK P T)
include hT
end
end
attribute [irreducible] FG
end Lf
end
section
set_option linter.unusedVariables false
set_option linter.unusedSimpArgs false
set_option maxHeartbeats 8000000
set_option linter.unusedSectionVars false
namespace Go.Proofs.Ytppdbmobcfedcaa
open Lf Go
attribute [local irreducible] PureOp EffOp Ev RG W Then InBlock Lf.Fin nth App InitE Pick SubE EvL EvD EvP EvR ResL Lf.Lex SubR SubBR RA RAll EvC FinO FinM ResM
attribute [local irreducible] WP PanOp
section
variable {L : List Let} {us : List Int}
theorem nameU1_ok (y : Let) (s : Str) : ACalls Try.prog 74 [aL y, .one (.ptr [.str s])] (.pv (cB (nameEq s y))) := by
  unfold nameEq
  refine ACalls.of_W (qs := [cB (decide (y.name = s))]) [3] 8 Try.func74 (by kernel_rfl) rfl rfl rfl fun G => ?_
  refine W.initA (hw := ?_)
  repeat' (first | ((first | apply U_); (first | exact QX.B TYok); exact rfl) | refine SX.Box TYok (h := ?_) | refine SC ?_)
  all_goals exact Fin.ret ResL.auto
theorem nameU_ok (hL : L.length ≤ 20) (hu : us.length = L.length) (s : Str) : ACalls Try.prog 62 [scV L us, cS s] (.pv (cI (nameU L us s))) := by
  have h1 := indexL_ok L 74 [.ptr [.str s]] (nameEq s) (by omega) (fun x _ => nameU1_ok x s)
  unfold nameU
  cases hn : L.any (nameEq s) with
  | false =>
    rw [fidx_miss hn] at h1
    rw [if_neg (by simp)]
    refine ACalls.of_W (qs := [cI (-1)]) [4] 17 Try.func62 (by kernel_rfl) rfl rfl rfl fun G => ?_
    refine W.initA (hw := ?_)
    repeat' (first | (refine W.weaken (Le.freeze1 (m := 3) rfl) ?_) | ((first | apply U_); (first | exact QX.B TYok | exact QX.Idx TYok | exact QX.Fun TYok | exact QCd (h1)); exact rfl) | refine SX.Box TYok (h := ?_) | refine SC ?_ | (refine W.condA (ht := fun hb => ?_) (hf := fun hb => ?_) <;> (try simp at hb) <;> (try (exfalso; omega))))
    all_goals exact Fin.ret ResL.auto
  | true =>
    have hi := List.findIdx_lt_length_of_exists (List.any_eq_true.1 hn)
    rw [fidx, if_pos hn] at h1
    rw [if_pos rfl]
    generalize L.findIdx (nameEq s) = i at *
    refine ACalls.of_W (qs := [cI (nth us i)]) [4] 17 Try.func62 (by kernel_rfl) rfl rfl rfl fun G => ?_
    refine W.initA (hw := ?_)
    repeat' (first | (refine W.weaken (Le.freeze1 (m := 3) rfl) ?_) | ((first | apply U_); (first | exact QX.B TYok | exact QX.Idx TYok | exact QX.Fun TYok | exact QCd (h1)); exact rfl) | refine SX.Box TYok (h := ?_) | refine SC ?_ | (refine W.condA (ht := fun hb => ?_) (hf := fun hb => ?_) <;> (try simp at hb) <;> (try (exfalso; omega))))
    all_goals exact Fin.ret ResL.auto
theorem of_leaf {op k u : Int} {s : Str} {l : List Exp} {path : List Int} (r : Int) (h : (op = 0 ∧ r = u) ∨ (op = 2 ∧ r = 1) ∨ (op = 3 ∧ r = 2)) : ACalls Try.prog 46 [scV L us, .agg [.int .i64 op, .int .i64 k, .int .i64 u, .str s, .sl (l.map encX)], pI path] (.pv (cI r)) := by
  refine ACalls.of_W (qs := [cI r]) [6] 66 Try.func46 (by kernel_rfl) rfl rfl rfl fun G => ?_
  refine W.initA (hw := ?_)
  repeat' (first | (refine W.weaken (Le.freeze1 (m := 3) rfl) ?_) | (refine W.weaken (Le.freeze1 (m := 4) rfl) ?_) | ((first | apply U_); (first | exact QX.B TYok | exact QX.Len TYok | exact QX.Idx TYok | exact QX.Build TYok); exact rfl) | refine SX.Box TYok (h := ?_) | refine SC ?_ | (refine W.condA (ht := fun hb => ?_) (hf := fun hb => ?_) <;> (try simp at hb) <;> (try (exfalso; omega))))
  all_goals first
    | (exfalso; omega)
    | (refine Fin.ret (ResL.cons rfl rfl (PSub.of_eq ?_) ResL.nil); congr 2; omega)
    | trace_state
theorem of_name {k u : Int} {s : Str} {l : List Exp} {path : List Int} (r : Int) (hr : r ≠ -1) (h : ACalls Try.prog 62 [scV L us, cS s] (.pv (cI r))) : ACalls Try.prog 46 [scV L us, .agg [.int .i64 1, .int .i64 k, .int .i64 u, .str s, .sl (l.map encX)], pI path] (.pv (cI r)) := by
  refine ACalls.of_W (qs := [cI r]) [6] 66 Try.func46 (by kernel_rfl) rfl rfl rfl fun G => ?_
  refine W.initA (hw := ?_)
  repeat' (first | (refine W.weaken (Le.freeze1 (m := 3) rfl) ?_) | (refine W.weaken (Le.freeze1 (m := 4) rfl) ?_) | ((first | apply U_); (first | exact QX.B TYok | exact QX.Len TYok | exact QX.Idx TYok | exact QX.Build TYok | exact QCd (h)); exact rfl) | refine SX.Box TYok (h := ?_) | refine SC ?_ | (refine W.condA (ht := fun hb => ?_) (hf := fun hb => ?_) <;> (try simp at hb) <;> (try (exfalso; omega))))
  all_goals first
    | (exfalso; omega)
    | exact Fin.ret ResL.auto
    | trace_state
theorem of_name_bad {k u : Int} {s : Str} {l : List Exp} {path : List Int} (hp : path.length ≤ 20) (h : ACalls Try.prog 62 [scV L us, cS s] (.pv (cI (-1)))) : PanCalls Try.prog 46 [scV L us, .agg [.int .i64 1, .int .i64 k, .int .i64 u, .str s, .sl (l.map encX)], pI path] (whyC path 14) := by
  have hc := (clone_ok path (by omega)).data rfl
  refine PanCalls.of_WP 66 Try.func46 (by kernel_rfl) rfl rfl fun G => ?_
  refine WP.initA (hw := ?_)
  repeat' (first | (refine WP.weaken (Le.freeze1 (m := 3) rfl) ?_) | (refine WP.weaken (Le.freeze1 (m := 4) rfl) ?_) | (refine WP.regionP (id := 11) (pre := [_, _, _, _]) (o := _) (suf := []) rfl rfl ?_) | ((first | apply U_); (first | (apply Q_makeI TYok; exact rfl; exact rfl; exact Ev.auto; exact rfl) | exact QX.B TYok | exact QX.Len TYok | exact QX.Idx TYok | exact QX.Build TYok | exact QCd (h) | exact QCd (hc)); exact rfl) | refine SX.Box TYok (h := ?_) | (apply PanOp.panic; exact Ev.auto; exact trivial) | refine WP.seq ?_ | refine WP.block ?_ | (refine WP.condA (ht := fun hb => ?_) (hf := fun hb => ?_) <;> (try simp at hb) <;> (try (exfalso; omega))) | (refine WP.of_W (c := .region _ _ _) ?_) | refine SC ?_)
  all_goals trace_state
end
end Go.Proofs.Ytppdbmobcfedcaa
end
section
set_option linter.unusedVariables false
set_option linter.unusedSimpArgs false
set_option linter.unusedSectionVars false
namespace Lf
open Go Go.RowKit
section
variable {P : Program} {G : Ghost} {A : St} {c0 : PK} {ops : Array Oper} {Ss : List St} {p : Nat} {pan : Bool}
/-- an operation whose value is the same in every world in which the frozen blocks are as1 they are -/
def StabOp (P : Program) (G : Ghost) (A : St) (o : Oper) (v : AV) : Prop :=
  ∀ Φ β a w, Sat G Φ β A a w → ∃ u, (∀ w', Fits Φ w' → (execOp a.eval o).run P w' = .ok (.value u) w') ∧ AVRel Φ β A.blks u v
def RE (P : Program) (G : Ghost) (c0 : PK) (pan : Bool) (ops : Array Oper) (fuel : Nat) (L : List Bool) (Q : St → Prop) (A : St) : Prop :=
  ∀ Φ β a w, Sat G Φ β A a w → ∀ Φs : Frz, Φs.le Φ → ∀ Q' : Exit → Act → World → Prop, (∀ A' Φ' β' a' w', Q A' → Sat G Φ' β' A' a' w' → Φ.le Φ' → Q' .normal a' w') → (pan = true → ∀ e a' w', PanX G c0 Φ e a' w' → Q' e a' w') →
    (∀ c a' d v w', Q' (.panic c) (Act.put a' d v) w' → Q' (.panic c) a' w') → wpAnyH P .any ops Q' (Fits Φs) fuel L.toArray a w
def RE0 (P : Program) (G : Ghost) (c0 : PK) (pan : Bool) (ops : Array Oper) (fuel : Nat) (L : List Bool) (Q : St → Prop) (A : St) : Prop :=
  ∀ Φ β a w, Sat G Φ β A a w → ∀ Q' : Exit → Act → World → Prop, (∀ A' Φ' β' a' w', Q A' → Sat G Φ' β' A' a' w' → Φ.le Φ' → Q' .normal a' w') → (pan = true → ∀ e a' w', PanX G c0 Φ e a' w' → Q' e a' w') →
    (∀ c a' d v w', Q' (.panic c) (Act.put a' d v) w' → Q' (.panic c) a' w') → wpAnyH P .any ops Q' (Fits Φ) fuel L.toArray a w
theorem RE0.take {n d fuel : Nat} {env : Env} {bl : List (Nat × Blk)} {L : List Bool} {Q : St → Prop} {o : Oper} {v : AV} (i : Nat) (ho : ops[i]? = some o) (hg : o.guard = none) (hd : o.dst = some d) (hn : Nat.blt d n = true) (hs : Region.noSelect ops = true) (hf : Region.free .any ops L.toArray i = true) (hr : (Region.ready .any ops L.toArray).contains i = true)
    (hst : StabOp P G (St.mk n env bl) o v) (h : RE0 P G c0 pan ops fuel (L.set i true) Q (St.mk n ((d, (True, v)) :: env) bl)) : RE0 P G c0 pan ops (fuel + 1) L Q (St.mk n env bl) := fun Φ β a w hsat Q' h1 h2 h3 => by
  obtain ⟨u, hu, hv⟩ := hst Φ β a w hsat
  have hset : L.toArray.setIfInBounds i true = (L.set i true).toArray := by simp
  refine wpAnyH_take (v := u) ho hs hf hr (fun c a' w' => h3 c a' o.dst u w') (.inl ⟨by simp [Region.wanted, hg], hu⟩) hsat.fits ?_
  rw [hset, hd]
  exact h Φ β _ w (hsat.set Φ.le_refl (fun _ _ => rfl) hsat.fits (Below.refl _ _) (blt_lt hn) (fun _ => hv) (fun hx => (hx trivial).elim)) Q' h1 h2 h3
theorem RE0.rest {fuel : Nat} {L : List Bool} {Q : St → Prop} (h : RE P G c0 pan ops fuel L Q A) : RE0 P G c0 pan ops fuel L Q A := fun Φ β a w hs Q' h1 h2 h3 => h Φ β a w hs Φ Φ.le_refl Q' h1 h2 h3
def memoOkH (ops : Array Oper) (p : Nat) (pan : Bool) (nodes : List MNode) : Bool :=
  nodes.all (fun e => Region.ready .any ops e.1.toArray == e.2.map (·.1) && e.2.all (fun x => (e.1.getD x.1 true == false) && (Nat.beq x.1 p || (match nodes[x.2]? with | some e' => e'.1 == e.1.set x.1 true | none => false))) && (!e.2.isEmpty || (!pan && e.1.count false == 0)))
  && (List.range nodes.length).all (fun k => match nodes[k]? with | some e => !e.2.isEmpty || k + 1 == nodes.length | none => true)
theorem RE.memo {Q : St → Prop} {nodes : List MNode} (hk : memoOkH ops p pan nodes = true) (hp : pan = false → ops[p]? = none) (hlen : Ss.length = nodes.length) (h : MNP P G c0 ops Ss p nodes Ss) (hQ : pan = false → ∀ S, Ss[nodes.length - 1]? = some S → Q S) :
    ∀ (fuel k : Nat) (L : List Bool) (es : List (Nat × Nat)) (S : St), nodes[k]? = some (L, es) → Ss[k]? = some S → L.count false = fuel → RE P G c0 pan ops fuel L Q S := by
  unfold memoOkH at hk
  rw [Bool.and_eq_true] at hk
  obtain ⟨hk1, hk2⟩ := hk
  have at' : ∀ (k : Nat) (L : List Bool) (es : List (Nat × Nat)), nodes[k]? = some (L, es) → Region.ready .any ops L.toArray = es.map (·.1) ∧ (∀ i t, (i, t) ∈ es → L.getD i true = false ∧ (i ≠ p → ∃ es', nodes[t]? = some (L.set i true, es'))) ∧ (es = [] → pan = false ∧ L.count false = 0 ∧ k + 1 = nodes.length) := fun k L es hn => by
    have h1 := List.all_eq_true.1 hk1 _ (List.mem_of_getElem? hn)
    have hkl := (List.getElem?_eq_some_iff.1 hn).1
    have h2 := List.all_eq_true.1 hk2 k (List.mem_range.2 hkl)
    rw [hn] at h2
    simp only [Bool.and_eq_true, beq_iff_eq, Bool.or_eq_true, Bool.not_eq_true', List.all_eq_true] at h1 h2
    obtain ⟨⟨a1, a2⟩, a3⟩ := h1
    refine ⟨a1, fun i t hm => ?_, fun e => ?_⟩
    · obtain ⟨b1, b2⟩ := a2 (i, t) hm
      refine ⟨b1, fun hne => ?_⟩
      rcases b2 with b2 | b2
      · exact absurd (Nat.eq_of_beq_eq_true b2) hne
      · cases hn' : nodes[t]? with
        | none => rw [hn'] at b2; simp at b2
        | some e' =>
          rw [hn'] at b2
          simp only [beq_iff_eq] at b2
          exact ⟨e'.2, by rw [← b2]⟩
    · subst e
      simp at a3 h2
      exact ⟨a3.1, a3.2, h2⟩
  intro fuel
  induction fuel with
  | zero =>
    intro k L es S hn hS hc Φ β a w hs Φs hle Q' q1 q2 q3
    obtain ⟨h1, h2, h3⟩ := at' k L es hn
    cases es with
    | nil =>
      obtain ⟨g1, g2, g3⟩ := h3 rfl
      exact ⟨h1, q1 S Φ β a w (hQ g1 S (by rw [show nodes.length - 1 = k by omega]; exact hS)) hs Φ.le_refl⟩
    | cons x es =>
      have := count_setM (h2 x.1 x.2 (by simp)).1
      omega
  | succ fuel ih =>
    intro k L es S hn hS hc Φ β a w hs Φs hle Q' q1 q2 q3
    obtain ⟨h1, h2, h3⟩ := at' k L es hn
    have hg := h.get k L es S hn hS
    refine ⟨fun e => ?_, fun j hj => ?_⟩
    · rw [h1] at e
      cases es with
      | nil => have := (h3 rfl).2.1; omega
      | cons x es => simp at e
    · rw [h1] at hj
      obtain ⟨⟨j', t⟩, hm, rfl⟩ := List.mem_map.1 hj
      obtain ⟨b1, b2⟩ := h2 j' t hm
      have hcs := count_setM b1
      rcases hg.get j' t hm with ⟨hpj, o, ho, hgd, hpo⟩ | ⟨hne, o, S', ho, hS', hr⟩
      · have hpan : pan = true := by
          cases hb : pan with
          | true => rfl
          | false => rw [hpj, hp hb] at ho; cases ho
        refine wpOp_of ho ?_
        exact wpList_plain hgd fun K hK => wp_outs (hpo Φ β a w hs) fun e a2 w2 hp2 => by
          obtain ⟨v, Φ', rfl, hx⟩ := hp2
          exact q2 hpan _ a2 w2 ⟨v, Φ', rfl, hx⟩
      · obtain ⟨es', b3⟩ := b2 hne
        have hset : L.toArray.setIfInBounds j' true = (L.set j' true).toArray := by simp
        refine wpOp_of ho (hr Φ β a w hs _ fun A1 Φ1 β1 a1 w1 c1 s1 l1 => ?_)
        obtain ⟨Φ3, β3, l3, s3⟩ := c1 G Φ1 β1 a1 w1 s1
        refine ⟨fun b c hb => s1.fits b c (l1 b c (hle b c hb)), ?_⟩
        rw [hset]
        exact ih t (L.set j' true) es' S' b3 hS' (by omega) Φ3 β3 a1 w1 s3 Φs (Frz.le_trans hle (Frz.le_trans l1 l3)) Q' (fun A4 Φ4 β4 a4 w4 g4 s4 l4 => q1 A4 Φ4 β4 a4 w4 g4 s4 (Frz.le_trans (Frz.le_trans l1 l3) l4))
          (fun hb e a2 w2 hp2 => q2 hb e a2 w2 (hp2.mono (Frz.le_trans l1 l3))) q3
/-- the rest of a region, from a set on -/
theorem RE0.memo {Q : St → Prop} {Sr : List St} {S0 Sn : St} {L L0 : List Bool} {es0 : List (Nat × Nat)} {nr : List MNode} {fuel : Nat} (p : Nat) (nodes : List MNode) (Ss : List St) (hk : memoOkH ops p false nodes = true) (hp : ops[p]? = none) (hn : nodes = (L0, es0) :: nr) (hL : L = L0) (hS : Ss = S0 :: Sr) (hlen : Nat.beq Ss.length nodes.length = true) (hf : Nat.beq (L0.count false) fuel = true)
    (hl : Le A S0) (h : MNP P G c0 ops Ss p nodes Ss) (he : Ss[nodes.length - 1]? = some Sn) (hQ : Q Sn) : RE0 P G c0 false ops fuel L Q A := fun Φ β a w hs Q' h1 h2 h3 => by
  obtain ⟨Φ1, β1, l1, s1⟩ := hl G Φ β a w hs
  subst hL
  refine RE.memo hk (fun _ => hp) (Nat.eq_of_beq_eq_true hlen) h (fun _ S hS' => by rw [he] at hS'; cases hS'; exact hQ) fuel 0 L es0 S0 (by rw [hn]; rfl) (by rw [hS]; rfl) (Nat.eq_of_beq_eq_true hf) Φ1 β1 a w s1 Φ l1 Q' (fun A4 Φ4 β4 a4 w4 g4 s4 l4 => h1 A4 Φ4 β4 a4 w4 g4 s4 (Frz.le_trans l1 l4)) (fun hb => by cases hb) h3
theorem RE0.memoP {Q : St → Prop} {Sr : List St} {S0 : St} {L L0 : List Bool} {es0 : List (Nat × Nat)} {nr : List MNode} {fuel : Nat} (p : Nat) (nodes : List MNode) (Ss : List St) (hk : memoOkH ops p true nodes = true) (hn : nodes = (L0, es0) :: nr) (hL : L = L0) (hS : Ss = S0 :: Sr) (hlen : Nat.beq Ss.length nodes.length = true) (hf : Nat.beq (L0.count false) fuel = true)
    (hl : Le A S0) (h : MNP P G c0 ops Ss p nodes Ss) : RE0 P G c0 true ops fuel L Q A := fun Φ β a w hs Q' h1 h2 h3 => by
  obtain ⟨Φ1, β1, l1, s1⟩ := hl G Φ β a w hs
  subst hL
  refine RE.memo hk (fun hb => by cases hb) (Nat.eq_of_beq_eq_true hlen) h (fun hb => by cases hb) fuel 0 L es0 S0 (by rw [hn]; rfl) (by rw [hS]; rfl) (Nat.eq_of_beq_eq_true hf) Φ1 β1 a w s1 Φ l1 Q' (fun A4 Φ4 β4 a4 w4 g4 s4 l4 => h1 A4 Φ4 β4 a4 w4 g4 s4 (Frz.le_trans l1 l4)) (fun hb e a2 w2 hp2 => h2 hb e a2 w2 (hp2.mono l1)) h3
theorem W.drawH {id : Nat} {l : List Oper} {Q : Exit → St → Prop} (N : Nat) (L : List Bool) (hm : P.follows .mixedOrders = true) (hN : l.length = N) (hL : List.replicate l.length false = L) (h : RE0 P G (PK.any .unk) false l.toArray N L (Q .normal) A) : W P G (.region id l.toArray true) Q A := fun Φ β a w hs => by
  subst hN
  have hsz : l.toArray.size = l.length := by simp
  have e : Array.replicate l.length false = L.toArray := by rw [← hL]; simp
  have key := h Φ β a { w with drawn := w.drawn + 1 } ⟨hs.kept.drew, hs.fits, hs.old, hs.siz, hs.dfr, hs.env, hs.blk, hs.vir, hs.inj⟩ (fun e a' w' => e = .normal ∧ ∃ A' Φ' β', Q .normal A' ∧ Sat G Φ' β' A' a' w' ∧ Φ.le Φ') (fun A' Φ' β' a' w' q s l => ⟨rfl, A', Φ', β', q, s, l⟩) (fun hb => by cases hb) (fun c a' d v w' hx => by cases hx.1)
  refine wp_mono (wp_region_held (S := Fits Φ) hm (by rw [hsz, e]; exact key)) fun e a' w' hx => ?_
  obtain ⟨rfl, A', Φ', β', q, s, l⟩ := hx
  exact ⟨A', Φ', β', q, s, l⟩
theorem WP.drawH {id : Nat} {l : List Oper} {Q : Exit → St → Prop} {cc : Cell} (N : Nat) (L : List Bool) (hm : P.follows .mixedOrders = true) (hN : l.length = N) (hL : List.replicate l.length false = L) (h : RE0 P G (PK.any cc) true l.toArray N L (fun _ => False) A) : WP P G (PK.any cc) (.region id l.toArray true) Q A := fun Φ β a w hs => by
  subst hN
  have hsz : l.toArray.size = l.length := by simp
  have e : Array.replicate l.length false = L.toArray := by rw [← hL]; simp
  have key := h Φ β a { w with drawn := w.drawn + 1 } ⟨hs.kept.drew, hs.fits, hs.old, hs.siz, hs.dfr, hs.env, hs.blk, hs.vir, hs.inj⟩ (fun e a' w' => PanX G (PK.any cc) Φ e a' w') (fun A' Φ' β' a' w' q s l => q.elim) (fun _ e a' w' hx => hx) (fun c a' d v w' ⟨v1, Φ1, e1, g1, g2, β1, A1, _, g3⟩ => ⟨v1, Φ1, e1, g1, g2, β1, ⟨0, [], []⟩, trivial, g3.none (by cases d <;> rfl)⟩)
  exact wp_mono (wp_region_held (S := Fits Φ) hm (by rw [hsz, e]; exact key)) fun e a' w' hx => .inr hx
section
variable {n : Nat} {env : Env} {bl : List (Nat × Blk)} {dst : Option Nat} {ty : TypeId} {pos : String} {after : Array Edge} {gd : Option (Nat × Bool)}
theorem Stab.move {x : Operand} {v : AV} (hx : Ev (St.mk n env bl) True x v) : StabOp P G (St.mk n env bl) ⟨dst, .move x, ty, pos, after, gd⟩ v := fun Φ β a w hs =>
  ⟨a.eval x, fun w' _ => by simp [execOp], hs.ev hx trivial⟩
variable {T : TT} (hT : TOK P T)
include hT
theorem Stab.loadp {t : Nat} {x : Operand} {ti : TI} {cs : List Cell} {c : Cell} (hx : Ev (St.mk n env bl) True x (.pv (.one (.ptr cs)))) (ht : T t = some ti) (hb : ti.kind.isAgg = some false) (hc : cs[0]? = some c) :
    StabOp P G (St.mk n env bl) ⟨dst, .load t x, ty, pos, after, gd⟩ (.pv (.one c)) := fun Φ β a w hs => by
  have hr : Rel Φ (a.eval x) (.ptr cs) := hs.ev hx trivial
  generalize hv : a.eval x = v at hr
  cases hr with
  | ptr b off _ f h1 h2 => exact ⟨f 0, fun w' hf => exec_load rfl (by rw [hv]; exact run_loadAt_one hT ht hb (fits_cell hf (h1 0 c hc))), h2 0 c hc⟩
theorem Stab.loadpa {t : Nat} {x : Operand} {ti : TI} {cs : List Cell} (hx : Ev (St.mk n env bl) True x (.pv (.one (.ptr cs)))) (ht : T t = some ti) (hb : ti.kind.isAgg = some true) (hc : Nat.ble ti.sz cs.length = true) :
    StabOp P G (St.mk n env bl) ⟨dst, .load t x, ty, pos, after, gd⟩ (.pv (.agg (cs.take ti.sz))) := fun Φ β a w hs => by
  have hr : Rel Φ (a.eval x) (.ptr cs) := hs.ev hx trivial
  have hc := Nat.le_of_ble_eq_true hc
  generalize hv : a.eval x = v at hr
  cases hr with
  | ptr b off _ f h1 h2 =>
    have hlen : (cs.take ti.sz).length = ti.sz := by simp; omega
    refine ⟨_, fun w' hf => exec_load rfl (by rw [hv]; exact run_loadAt_agg hT ht hb (fun j hj => fits_cell hf (h1 j (cs[j]'(by omega)) (List.getElem?_eq_getElem _)))), _, rfl, ?_⟩
    have := relL_range (Φ := Φ) (f := f) (cs := cs.take ti.sz) (fun j c hj => by
      rw [List.getElem?_take] at hj
      split at hj
      · exact h2 j c hj
      · cases hj)
    rwa [hlen] at this
theorem Stab.fieldp {s f fo ft : Nat} {x : Operand} {ti tj : TI} {fs : List (Nat × Nat)} {cs : List Cell} (hx : Ev (St.mk n env bl) True x (.pv (.one (.ptr cs)))) (ht : T s = some ti) (hk : ti.kind = .struct fs) (hf : fs[f]? = some (fo, ft)) (hj : T ft = some tj) (hz : Nat.blt 0 tj.sz = true) :
    StabOp P G (St.mk n env bl) ⟨dst, .fieldAddr s x f, ty, pos, after, gd⟩ (.pv (.one (.ptr (cs.drop fo)))) := fun Φ β a w hs => by
  have hr : Rel Φ (a.eval x) (.ptr cs) := hs.ev hx trivial
  generalize hv : a.eval x = v at hr
  cases hr with
  | ptr b off _ g h1 h2 =>
    refine ⟨_, fun w' _ => exec_val (m := Instr.fieldAt s (a.eval x) f) (by simp only [execOp]) (by rw [hv]; exact run_fieldAt hT ht hk hf hj (Nat.ne_of_gt (blt_lt hz)) _ _ w'), ?_⟩
    refine Rel.ptr b (off + fo) _ (fun j => g (fo + j)) (fun j c hj => ?_) (fun j c hj => ?_)
    · rw [List.getElem?_drop] at hj; rw [Nat.add_assoc]; exact h1 _ _ hj
    · rw [List.getElem?_drop] at hj; exact h2 _ _ hj
end
attribute [irreducible] StabOp RE RE0
end
end Lf
end
