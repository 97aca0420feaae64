/-
  Right indentures
-/
import Derived.Test.YtionjeodcmnneaaCon
import Derived.Test.YtionjeodcmnneaaRight
set_option linter.unusedVariables false
set_option linter.unusedSimpArgs false
set_option maxHeartbeats 8000000
namespace Go.Proofs.Ytionjeodcmnneaa
open Lf Go
attribute [local irreducible] PureOp EffOp Ev RG W Then InBlock Lf.Fin nth App InitE Pick SubE SubF SubG EvL EvD EvP EvR ResL Lf.Lex SubR SubBR RA RAll EvC FinO FinM ResM FinB ResD

theorem rightExp_ok (e : Exp) (he : OkE e) : ACalls Try.prog 55 [aE e] (.pv (cB (rightF 12 e))) := by
  have h := right_ok 12 e (by omega) he
  refine ACalls.of_W (qs := [cB (rightF 12 e)]) [2] 5 Try.func55 (by kernel_rfl) rfl rfl rfl fun G => ?_
  refine W.initA (hw := ?_)
  repeat' (first
    | apply RG.nil
    | apply Lex.nil
    | apply Then.n
    | apply Then.r
    | apply Then.x
    | apply InBlock.n
    | apply InBlock.r
    | apply InBlock.hit
    | (apply InBlock.miss; exact rfl)
    | apply W.seq
    | apply W.region
    | apply W.block
    | apply W.skip
    | apply W.ret
    | apply W.exit
    | ((first | apply U_); (first
    | exact QX.Asg TYok
    | exact QX.Ld TYok
    | (apply Q_calld (h); exact EvD.auto)); exact rfl)
    | refine SX.Box TYok (h := ?_)
    | (refine W.condA (ht := fun hb => ?_) (hf := fun hb => ?_) <;> (try simp at hb) <;> (try (exfalso; omega))))
  exact Fin.ret ResL.auto
def datesF (x : Ind) : Bool := [x.start, x.due].all (inF 0 200000) && decide (x.start < x.due)
def oneR (x : Ind) : Bool := [x.face].all (inF 1 1000000000000000) && [x.every].all (inF 1 120) && [x.count].all (inF 0 2) && [x.adjust].all (inF 0 3) && [x.record].all (inF 0 100) && [x.rank].all (inF 0 9)
def twoR (x : Ind) : Bool := [x.cap].all (inF 0 10000) && [x.cross].all (inF (-1) 1000000000000000) && [x.notice, x.sink].all (inF 0 1000) && [x.majority, x.fast].all (inF 1 1000)
def hdR (x : Ind) : Bool := datesF x && oneR x && twoR x && nameF x.name && nameF x.issuer && decide ((x.calls.length : Int) ≤ 20) && uniqF x.favour 20
def badL (y : Let) : Bool := !rightF 12 y.body
def badV (y : Cov) : Bool := !rightF 12 y.must || !([y.grace].all (inF 0 1000))
def badC (y : Cl) : Bool := !([y.day].all (inF 0 200000)) || !([y.price].all (inF 0 10000))
def midR (x : Ind) : Bool := uniqF (x.lets.map Let.name) 20 && uniqF (x.covs.map Cov.name) 20 && rightF 12 x.coupon
def rightN (x : Ind) : Bool := hdR x && midR x && (!(x.lets.any badL || x.covs.any badV) && !(x.calls.any badC))
theorem badL_ok (y : Let) (h : OkE y.body) : ACalls Try.prog 57 [aL y] (.pv (cB (badL y))) := by
  have q := rightExp_ok y.body h
  refine ACalls.of_W (qs := [cB (badL y)]) [2] 7 Try.func57 (by kernel_rfl) rfl rfl rfl fun G => ?_
  refine W.initA (hw := ?_)
  repeat' (first
    | apply RG.nil
    | apply Lex.nil
    | apply Then.n
    | apply Then.r
    | apply Then.x
    | apply InBlock.n
    | apply InBlock.r
    | apply InBlock.hit
    | (apply InBlock.miss; exact rfl)
    | apply W.seq
    | apply W.region
    | apply W.block
    | apply W.skip
    | apply W.ret
    | apply W.exit
    | ((first | apply U_); (first
    | exact QX.Asg TYok
    | exact QX.Fld TYok
    | exact QX.Ld TYok
    | exact QX.Un TYok
    | (apply Q_calld (q); exact EvD.auto)); exact rfl)
    | refine SX.Box TYok (h := ?_)
    | (refine W.condA (ht := fun hb => ?_) (hf := fun hb => ?_) <;> (try simp at hb) <;> (try (exfalso; omega))))
  exact Fin.ret ResL.auto
theorem badV_ok (y : Cov) (h : OkE y.must) : ACalls Try.prog 59 [aV y] (.pv (cB (badV y))) := by
  have q := rightExp_ok y.must h
  have q2 := in_ok 0 1000 [y.grace] (by simp)
  unfold badV
  cases hc : rightF 12 y.must with
  | false =>
    rw [hc] at q
    refine ACalls.of_W (qs := [cB true]) [2] 14 Try.func59 (by kernel_rfl) rfl rfl rfl fun G => ?_
    refine W.initA (hw := ?_)
    repeat' (first
      | apply RG.nil
      | apply Lex.nil
      | apply Then.n
      | apply Then.r
      | apply Then.x
      | apply InBlock.n
      | apply InBlock.r
      | apply InBlock.hit
      | (apply InBlock.miss; exact rfl)
      | apply W.seq
      | apply W.region
      | apply W.block
      | apply W.skip
      | apply W.ret
      | apply W.exit
      | ((first | apply U_ | (apply Ug_; exact rfl; exact rfl) | (apply Ugq_; exact rfl; exact rfl)); (first
    | exact QX.Move TYok
    | exact QX.Asg TYok
    | exact QX.Fld TYok
    | exact QX.Ld TYok
    | exact QX.Pick TYok
    | exact QX.Un TYok
    | (apply Q_calld (q); exact EvD.auto)
    | (apply Q_call (q2); exact EvL.auto; exact rfl)); exact rfl)
      | refine SX.Lit TYok (h := ?_)
      | refine SX.Box TYok (h := ?_)
      | (apply RG.gT; exact rfl; exact rfl; (first | assumption | decide))
      | (apply RG.gF; exact rfl; exact rfl; (first | assumption | decide | (rw [ne_eq, Bool.not_eq_true]; assumption) | (rw [ne_eq, Bool.not_eq_false]; assumption)); exact rfl)
      | (refine W.condA (ht := fun hb => ?_) (hf := fun hb => ?_) <;> (try simp at hb) <;> (try (exfalso; omega))))
    exact Fin.ret ResL.auto
  | true =>
    rw [hc] at q
    refine ACalls.of_W (qs := [cB (!true || !([y.grace].all (inF 0 1000)))]) [2] 14 Try.func59 (by kernel_rfl) rfl rfl rfl fun G => ?_
    refine W.initA (hw := ?_)
    repeat' (first
      | apply RG.nil
      | apply Lex.nil
      | apply Then.n
      | apply Then.r
      | apply Then.x
      | apply InBlock.n
      | apply InBlock.r
      | apply InBlock.hit
      | (apply InBlock.miss; exact rfl)
      | apply W.seq
      | apply W.region
      | apply W.block
      | apply W.skip
      | apply W.ret
      | apply W.exit
      | ((first | apply U_ | (apply Ug_; exact rfl; exact rfl) | (apply Ugq_; exact rfl; exact rfl)); (first
    | exact QX.Move TYok
    | exact QX.Asg TYok
    | exact QX.Fld TYok
    | exact QX.Ld TYok
    | exact QX.Pick TYok
    | exact QX.Un TYok
    | (apply Q_calld (q); exact EvD.auto)
    | (apply Q_call (q2); exact EvL.auto; exact rfl)); exact rfl)
      | refine SX.Lit TYok (h := ?_)
      | refine SX.Box TYok (h := ?_)
      | (apply RG.gT; exact rfl; exact rfl; (first | assumption | decide))
      | (apply RG.gF; exact rfl; exact rfl; (first | assumption | decide | (rw [ne_eq, Bool.not_eq_true]; assumption) | (rw [ne_eq, Bool.not_eq_false]; assumption)); exact rfl)
      | (refine W.condA (ht := fun hb => ?_) (hf := fun hb => ?_) <;> (try simp at hb) <;> (try (exfalso; omega))))
    exact Fin.ret ResL.auto
theorem badC_ok (y : Cl) : ACalls Try.prog 61 [aC y] (.pv (cB (badC y))) := by
  have q := in_ok 0 200000 [y.day] (by simp)
  have q2 := in_ok 0 10000 [y.price] (by simp)
  unfold badC
  cases hc : [y.day].all (inF 0 200000) with
  | false =>
    rw [hc] at q
    refine ACalls.of_W (qs := [cB true]) [2] 15 Try.func61 (by kernel_rfl) rfl rfl rfl fun G => ?_
    refine W.initA (hw := ?_)
    repeat' (first
      | apply RG.nil
      | apply Lex.nil
      | apply Then.n
      | apply Then.r
      | apply Then.x
      | apply InBlock.n
      | apply InBlock.r
      | apply InBlock.hit
      | (apply InBlock.miss; exact rfl)
      | apply W.seq
      | apply W.region
      | apply W.block
      | apply W.skip
      | apply W.ret
      | apply W.exit
      | ((first | apply U_ | (apply Ug_; exact rfl; exact rfl) | (apply Ugq_; exact rfl; exact rfl)); (first
    | exact QX.Move TYok
    | exact QX.Asg TYok
    | exact QX.Fld TYok
    | exact QX.Ld TYok
    | exact QX.Pick TYok
    | exact QX.Un TYok
    | (apply Q_call (q); exact EvL.auto; exact rfl)
    | (apply Q_call (q2); exact EvL.auto; exact rfl)); exact rfl)
      | refine SX.Lit TYok (h := ?_)
      | refine SX.Box TYok (h := ?_)
      | (apply RG.gT; exact rfl; exact rfl; (first | assumption | decide))
      | (apply RG.gF; exact rfl; exact rfl; (first | assumption | decide | (rw [ne_eq, Bool.not_eq_true]; assumption) | (rw [ne_eq, Bool.not_eq_false]; assumption)); exact rfl)
      | (refine W.condA (ht := fun hb => ?_) (hf := fun hb => ?_) <;> (try simp at hb) <;> (try (exfalso; omega))))
    exact Fin.ret ResL.auto
  | true =>
    rw [hc] at q
    refine ACalls.of_W (qs := [cB (!true || !([y.price].all (inF 0 10000)))]) [2] 15 Try.func61 (by kernel_rfl) rfl rfl rfl fun G => ?_
    refine W.initA (hw := ?_)
    repeat' (first
      | apply RG.nil
      | apply Lex.nil
      | apply Then.n
      | apply Then.r
      | apply Then.x
      | apply InBlock.n
      | apply InBlock.r
      | apply InBlock.hit
      | (apply InBlock.miss; exact rfl)
      | apply W.seq
      | apply W.region
      | apply W.block
      | apply W.skip
      | apply W.ret
      | apply W.exit
      | ((first | apply U_ | (apply Ug_; exact rfl; exact rfl) | (apply Ugq_; exact rfl; exact rfl)); (first
    | exact QX.Move TYok
    | exact QX.Asg TYok
    | exact QX.Fld TYok
    | exact QX.Ld TYok
    | exact QX.Pick TYok
    | exact QX.Un TYok
    | (apply Q_call (q); exact EvL.auto; exact rfl)
    | (apply Q_call (q2); exact EvL.auto; exact rfl)); exact rfl)
      | refine SX.Lit TYok (h := ?_)
      | refine SX.Box TYok (h := ?_)
      | (apply RG.gT; exact rfl; exact rfl; (first | assumption | decide))
      | (apply RG.gF; exact rfl; exact rfl; (first | assumption | decide | (rw [ne_eq, Bool.not_eq_true]; assumption) | (rw [ne_eq, Bool.not_eq_false]; assumption)); exact rfl)
      | (refine W.condA (ht := fun hb => ?_) (hf := fun hb => ?_) <;> (try simp at hb) <;> (try (exfalso; omega))))
    exact Fin.ret ResL.auto
set_option maxRecDepth 20000 in
theorem rightI_ok (x : Ind) (hx : OkN x) (hsm : x.lets.length ≤ 1000 ∧ x.covs.length ≤ 1000) : ACalls Try.prog 42 [aN x] (.pv (cB (rightN x))) := by
  have d1 := in_ok 0 200000 [x.start, x.due] (by simp)
  have e1 := in_ok 1 1000000000000000 [x.face] (by simp)
  have e2 := in_ok 1 120 [x.every] (by simp)
  have e3 := in_ok 0 2 [x.count] (by simp)
  have e4 := in_ok 0 3 [x.adjust] (by simp)
  have e5 := in_ok 0 100 [x.record] (by simp)
  have e6 := in_ok 0 9 [x.rank] (by simp)
  have f1 := in_ok 0 10000 [x.cap] (by simp)
  have f2 := in_ok (-1) 1000000000000000 [x.cross] (by simp)
  have f3 := in_ok 0 1000 [x.notice, x.sink] (by simp)
  have f4 := in_ok 1 1000 [x.majority, x.fast] (by simp)
  have g1 := name_ok x.name hx.name
  have g2 := name_ok x.issuer hx.issuer
  have g3 := unique_ok x.favour 20 hx.favour hx.favn
  have g4 := unique_ok (x.lets.map Let.name) 20 (by rw [List.length_map]; exact hx.lets) (fun s hs => by obtain ⟨y, hy, rfl⟩ := List.mem_map.1 hs; exact hx.letn y hy)
  have g5 := unique_ok (x.covs.map Cov.name) 20 (by rw [List.length_map]; exact hx.covs) (fun s hs => by obtain ⟨y, hy, rfl⟩ := List.mem_map.1 hs; exact hx.covn y hy)
  have g6 := rightExp_ok x.coupon hx.coupon
  have g7 := containsL_ok x.lets 57 [] badL hx.lets (fun y hy => badL_ok y (hx.lete y hy))
  have g8 := containsV_ok x.covs 59 [] badV hx.covs (fun y hy => badV_ok y (hx.cove y hy))
  have g9 := containsC_ok x.calls 61 [] badC hx.calls (fun y hy => badC_ok y)
  have z1 := hx.lets
  have z2 := hx.covs
  have hm1 : ∀ k, k < x.lets.length → (x.lets.take (k + 1)).map Let.name = (x.lets.take k).map Let.name ++ [(nth x.lets k).name] := fun k hk => by rw [take_nth hk]; simp
  have hm2 : ∀ k, k < x.covs.length → (x.covs.take (k + 1)).map Cov.name = (x.covs.take k).map Cov.name ++ [(nth x.covs k).name] := fun k hk => by rw [take_nth hk]; simp
  refine ACalls.of_W (qs := [cB (rightN x)]) [2] 177 Try.func42 (by kernel_rfl) rfl rfl rfl fun G => ?_
  refine W.initA (hw := ?_)
  apply W.seq
  apply cutK (σ := Unit) 177 [] (fun _ => True) (fun _ => [(1, (True, .addr 1 0 0))]) (fun _ => [(1, ⟨40, 25, [encN x]⟩)])
  case hp => repeat (first | exact Pick.nil | apply Pick.cons rfl)
  case hx =>
    repeat' (first
      | apply RG.nil
      | apply Lex.nil
      | apply Then.n
      | apply Then.r
      | apply Then.x
      | apply InBlock.n
      | apply InBlock.r
      | apply InBlock.hit
      | (apply InBlock.miss; exact rfl)
      | apply W.seq
      | apply W.region
      | apply W.block
      | apply W.skip
      | apply W.ret
      | apply W.exit
      | ((first | apply U_ | (apply Ug_; exact rfl; exact rfl) | (apply Ugq_; exact rfl; exact rfl)); (first
    | exact QX.Move TYok
    | exact QX.Asg TYok
    | exact QX.Fld TYok
    | exact QX.Ld TYok
    | exact QX.Bin TYok
    | exact QX.Pick TYok
    | exact QX.Un TYok
    | exact QX.Len TYok
    | exact QX.Idx TYok); exact rfl)
      | refine SX.Alloc TYok (h := ?_)
      | refine SX.Store TYok (h := ?_)
      | refine SX.Lit TYok (h := ?_)
      | refine SX.App TYok (h := ?_)
      | refine SX.Box TYok (h := ?_)
      | (apply RG.gT; exact rfl; exact rfl; (first | assumption | decide))
      | (apply RG.gF; exact rfl; exact rfl; (first | assumption | decide | (rw [ne_eq, Bool.not_eq_true]; assumption) | (rw [ne_eq, Bool.not_eq_false]; assumption)); exact rfl)
      | (refine W.condA (ht := fun hb => ?_) (hf := fun hb => ?_) <;> (try simp at hb) <;> (try (exfalso; omega))))
    refine ⟨(), trivial, ?_⟩
    exact Le.auto
  case hy =>
  rintro _ _
  apply W.norm (by repeat (first | exact App.nil | apply App.cons))
  apply W.seq
  apply cutK (σ := Unit) 177 [] (fun _ => True) (fun _ => [(1, (True, .addr 1 0 0)), (3, (True, .pv (cB (datesF x))))]) (fun _ => [(1, ⟨40, 25, [encN x]⟩)])
  case hp => repeat (first | exact Pick.nil | apply Pick.cons rfl)
  case hx =>
    unfold datesF
    repeat' (first
      | apply RG.nil
      | apply Lex.nil
      | apply Then.n
      | apply Then.r
      | apply Then.x
      | apply InBlock.n
      | apply InBlock.r
      | apply InBlock.hit
      | (apply InBlock.miss; exact rfl)
      | apply W.seq
      | apply W.region
      | apply W.block
      | apply W.skip
      | apply W.ret
      | apply W.exit
      | ((first | apply U_ | (apply Ug_; exact rfl; exact rfl) | (apply Ugq_; exact rfl; exact rfl)); (first
    | exact QX.Move TYok
    | exact QX.Asg TYok
    | exact QX.Fld TYok
    | exact QX.Ld TYok
    | exact QX.Bin TYok
    | exact QX.Pick TYok
    | exact QX.Un TYok
    | exact QX.Len TYok
    | exact QX.Idx TYok
    | (apply Q_call (d1); exact EvL.auto; exact rfl)); exact rfl)
      | refine SX.Alloc TYok (h := ?_)
      | refine SX.Store TYok (h := ?_)
      | refine SX.Lit TYok (h := ?_)
      | refine SX.App TYok (h := ?_)
      | refine SX.Box TYok (h := ?_)
      | (apply RG.gT; exact rfl; exact rfl; (first | assumption | decide))
      | (apply RG.gF; exact rfl; exact rfl; (first | assumption | decide | (rw [ne_eq, Bool.not_eq_true]; assumption) | (rw [ne_eq, Bool.not_eq_false]; assumption)); exact rfl)
      | (refine W.condA (ht := fun hb => ?_) (hf := fun hb => ?_) <;> (try simp at hb) <;> (try (exfalso; omega))))
    refine ⟨(), trivial, ?_⟩
    exact Le.auto
  case hy =>
  rintro _ _
  apply W.norm (by repeat (first | exact App.nil | apply App.cons))
  apply W.seq
  apply cutK (σ := Unit) 177 [] (fun _ => True) (fun _ => [(1, (True, .addr 1 0 0)), (3, (True, .pv (cB (datesF x)))), (4, (True, .pv (cB (oneR x))))]) (fun _ => [(1, ⟨40, 25, [encN x]⟩)])
  case hp => repeat (first | exact Pick.nil | apply Pick.cons rfl)
  case hx =>
    unfold oneR
    cases p0 : [x.face].all (inF 1 1000000000000000) with
    | false =>
      rw [p0] at e1
      repeat' (first
        | apply RG.nil
        | apply Lex.nil
        | apply Then.n
        | apply Then.r
        | apply Then.x
        | apply InBlock.n
        | apply InBlock.r
        | apply InBlock.hit
        | (apply InBlock.miss; exact rfl)
        | apply W.seq
        | apply W.region
        | apply W.block
        | apply W.skip
        | apply W.ret
        | apply W.exit
        | ((first | apply U_ | (apply Ug_; exact rfl; exact rfl) | (apply Ugq_; exact rfl; exact rfl)); (first
    | exact QX.Move TYok
    | exact QX.Asg TYok
    | exact QX.Fld TYok
    | exact QX.Ld TYok
    | exact QX.Bin TYok
    | exact QX.Pick TYok
    | exact QX.Un TYok
    | exact QX.Len TYok
    | exact QX.Idx TYok
    | (apply Q_call (e1); exact EvL.auto; exact rfl)
    | (apply Q_call (e2); exact EvL.auto; exact rfl)
    | (apply Q_call (e3); exact EvL.auto; exact rfl)
    | (apply Q_call (e4); exact EvL.auto; exact rfl)
    | (apply Q_call (e5); exact EvL.auto; exact rfl)
    | (apply Q_call (e6); exact EvL.auto; exact rfl)); exact rfl)
        | refine SX.Alloc TYok (h := ?_)
        | refine SX.Store TYok (h := ?_)
        | refine SX.Lit TYok (h := ?_)
        | refine SX.App TYok (h := ?_)
        | refine SX.Box TYok (h := ?_)
        | (apply RG.gT; exact rfl; exact rfl; (first | assumption | decide))
        | (apply RG.gF; exact rfl; exact rfl; (first | assumption | decide | (rw [ne_eq, Bool.not_eq_true]; assumption) | (rw [ne_eq, Bool.not_eq_false]; assumption)); exact rfl)
        | (refine W.condA (ht := fun hb => ?_) (hf := fun hb => ?_) <;> (try simp at hb) <;> (try (exfalso; omega))))
      refine ⟨(), trivial, ?_⟩
      exact Le.auto
    | true =>
      rw [p0] at e1
      cases p1 : [x.every].all (inF 1 120) with
      | false =>
        rw [p1] at e2
        repeat' (first
          | apply RG.nil
          | apply Lex.nil
          | apply Then.n
          | apply Then.r
          | apply Then.x
          | apply InBlock.n
          | apply InBlock.r
          | apply InBlock.hit
          | (apply InBlock.miss; exact rfl)
          | apply W.seq
          | apply W.region
          | apply W.block
          | apply W.skip
          | apply W.ret
          | apply W.exit
          | ((first | apply U_ | (apply Ug_; exact rfl; exact rfl) | (apply Ugq_; exact rfl; exact rfl)); (first
    | exact QX.Move TYok
    | exact QX.Asg TYok
    | exact QX.Fld TYok
    | exact QX.Ld TYok
    | exact QX.Bin TYok
    | exact QX.Pick TYok
    | exact QX.Un TYok
    | exact QX.Len TYok
    | exact QX.Idx TYok
    | (apply Q_call (e1); exact EvL.auto; exact rfl)
    | (apply Q_call (e2); exact EvL.auto; exact rfl)
    | (apply Q_call (e3); exact EvL.auto; exact rfl)
    | (apply Q_call (e4); exact EvL.auto; exact rfl)
    | (apply Q_call (e5); exact EvL.auto; exact rfl)
    | (apply Q_call (e6); exact EvL.auto; exact rfl)); exact rfl)
          | refine SX.Alloc TYok (h := ?_)
          | refine SX.Store TYok (h := ?_)
          | refine SX.Lit TYok (h := ?_)
          | refine SX.App TYok (h := ?_)
          | refine SX.Box TYok (h := ?_)
          | (apply RG.gT; exact rfl; exact rfl; (first | assumption | decide))
          | (apply RG.gF; exact rfl; exact rfl; (first | assumption | decide | (rw [ne_eq, Bool.not_eq_true]; assumption) | (rw [ne_eq, Bool.not_eq_false]; assumption)); exact rfl)
          | (refine W.condA (ht := fun hb => ?_) (hf := fun hb => ?_) <;> (try simp at hb) <;> (try (exfalso; omega))))
        refine ⟨(), trivial, ?_⟩
        exact Le.auto
      | true =>
        rw [p1] at e2
        cases p2 : [x.count].all (inF 0 2) with
        | false =>
          rw [p2] at e3
          repeat' (first
            | apply RG.nil
            | apply Lex.nil
            | apply Then.n
            | apply Then.r
            | apply Then.x
            | apply InBlock.n
            | apply InBlock.r
            | apply InBlock.hit
            | (apply InBlock.miss; exact rfl)
            | apply W.seq
            | apply W.region
            | apply W.block
            | apply W.skip
            | apply W.ret
            | apply W.exit
            | ((first | apply U_ | (apply Ug_; exact rfl; exact rfl) | (apply Ugq_; exact rfl; exact rfl)); (first
    | exact QX.Move TYok
    | exact QX.Asg TYok
    | exact QX.Fld TYok
    | exact QX.Ld TYok
    | exact QX.Bin TYok
    | exact QX.Pick TYok
    | exact QX.Un TYok
    | exact QX.Len TYok
    | exact QX.Idx TYok
    | (apply Q_call (e1); exact EvL.auto; exact rfl)
    | (apply Q_call (e2); exact EvL.auto; exact rfl)
    | (apply Q_call (e3); exact EvL.auto; exact rfl)
    | (apply Q_call (e4); exact EvL.auto; exact rfl)
    | (apply Q_call (e5); exact EvL.auto; exact rfl)
    | (apply Q_call (e6); exact EvL.auto; exact rfl)); exact rfl)
            | refine SX.Alloc TYok (h := ?_)
            | refine SX.Store TYok (h := ?_)
            | refine SX.Lit TYok (h := ?_)
            | refine SX.App TYok (h := ?_)
            | refine SX.Box TYok (h := ?_)
            | (apply RG.gT; exact rfl; exact rfl; (first | assumption | decide))
            | (apply RG.gF; exact rfl; exact rfl; (first | assumption | decide | (rw [ne_eq, Bool.not_eq_true]; assumption) | (rw [ne_eq, Bool.not_eq_false]; assumption)); exact rfl)
            | (refine W.condA (ht := fun hb => ?_) (hf := fun hb => ?_) <;> (try simp at hb) <;> (try (exfalso; omega))))
          refine ⟨(), trivial, ?_⟩
          exact Le.auto
        | true =>
          rw [p2] at e3
          cases p3 : [x.adjust].all (inF 0 3) with
          | false =>
            rw [p3] at e4
            repeat' (first
              | apply RG.nil
              | apply Lex.nil
              | apply Then.n
              | apply Then.r
              | apply Then.x
              | apply InBlock.n
              | apply InBlock.r
              | apply InBlock.hit
              | (apply InBlock.miss; exact rfl)
              | apply W.seq
              | apply W.region
              | apply W.block
              | apply W.skip
              | apply W.ret
              | apply W.exit
              | ((first | apply U_ | (apply Ug_; exact rfl; exact rfl) | (apply Ugq_; exact rfl; exact rfl)); (first
    | exact QX.Move TYok
    | exact QX.Asg TYok
    | exact QX.Fld TYok
    | exact QX.Ld TYok
    | exact QX.Bin TYok
    | exact QX.Pick TYok
    | exact QX.Un TYok
    | exact QX.Len TYok
    | exact QX.Idx TYok
    | (apply Q_call (e1); exact EvL.auto; exact rfl)
    | (apply Q_call (e2); exact EvL.auto; exact rfl)
    | (apply Q_call (e3); exact EvL.auto; exact rfl)
    | (apply Q_call (e4); exact EvL.auto; exact rfl)
    | (apply Q_call (e5); exact EvL.auto; exact rfl)
    | (apply Q_call (e6); exact EvL.auto; exact rfl)); exact rfl)
              | refine SX.Alloc TYok (h := ?_)
              | refine SX.Store TYok (h := ?_)
              | refine SX.Lit TYok (h := ?_)
              | refine SX.App TYok (h := ?_)
              | refine SX.Box TYok (h := ?_)
              | (apply RG.gT; exact rfl; exact rfl; (first | assumption | decide))
              | (apply RG.gF; exact rfl; exact rfl; (first | assumption | decide | (rw [ne_eq, Bool.not_eq_true]; assumption) | (rw [ne_eq, Bool.not_eq_false]; assumption)); exact rfl)
              | (refine W.condA (ht := fun hb => ?_) (hf := fun hb => ?_) <;> (try simp at hb) <;> (try (exfalso; omega))))
            refine ⟨(), trivial, ?_⟩
            exact Le.auto
          | true =>
            rw [p3] at e4
            cases p4 : [x.record].all (inF 0 100) with
            | false =>
              rw [p4] at e5
              repeat' (first
                | apply RG.nil
                | apply Lex.nil
                | apply Then.n
                | apply Then.r
                | apply Then.x
                | apply InBlock.n
                | apply InBlock.r
                | apply InBlock.hit
                | (apply InBlock.miss; exact rfl)
                | apply W.seq
                | apply W.region
                | apply W.block
                | apply W.skip
                | apply W.ret
                | apply W.exit
                | ((first | apply U_ | (apply Ug_; exact rfl; exact rfl) | (apply Ugq_; exact rfl; exact rfl)); (first
    | exact QX.Move TYok
    | exact QX.Asg TYok
    | exact QX.Fld TYok
    | exact QX.Ld TYok
    | exact QX.Bin TYok
    | exact QX.Pick TYok
    | exact QX.Un TYok
    | exact QX.Len TYok
    | exact QX.Idx TYok
    | (apply Q_call (e1); exact EvL.auto; exact rfl)
    | (apply Q_call (e2); exact EvL.auto; exact rfl)
    | (apply Q_call (e3); exact EvL.auto; exact rfl)
    | (apply Q_call (e4); exact EvL.auto; exact rfl)
    | (apply Q_call (e5); exact EvL.auto; exact rfl)
    | (apply Q_call (e6); exact EvL.auto; exact rfl)); exact rfl)
                | refine SX.Alloc TYok (h := ?_)
                | refine SX.Store TYok (h := ?_)
                | refine SX.Lit TYok (h := ?_)
                | refine SX.App TYok (h := ?_)
                | refine SX.Box TYok (h := ?_)
                | (apply RG.gT; exact rfl; exact rfl; (first | assumption | decide))
                | (apply RG.gF; exact rfl; exact rfl; (first | assumption | decide | (rw [ne_eq, Bool.not_eq_true]; assumption) | (rw [ne_eq, Bool.not_eq_false]; assumption)); exact rfl)
                | (refine W.condA (ht := fun hb => ?_) (hf := fun hb => ?_) <;> (try simp at hb) <;> (try (exfalso; omega))))
              refine ⟨(), trivial, ?_⟩
              exact Le.auto
            | true =>
              rw [p4] at e5
              cases p5 : [x.rank].all (inF 0 9) with
              | false =>
                rw [p5] at e6
                repeat' (first
                  | apply RG.nil
                  | apply Lex.nil
                  | apply Then.n
                  | apply Then.r
                  | apply Then.x
                  | apply InBlock.n
                  | apply InBlock.r
                  | apply InBlock.hit
                  | (apply InBlock.miss; exact rfl)
                  | apply W.seq
                  | apply W.region
                  | apply W.block
                  | apply W.skip
                  | apply W.ret
                  | apply W.exit
                  | ((first | apply U_ | (apply Ug_; exact rfl; exact rfl) | (apply Ugq_; exact rfl; exact rfl)); (first
    | exact QX.Move TYok
    | exact QX.Asg TYok
    | exact QX.Fld TYok
    | exact QX.Ld TYok
    | exact QX.Bin TYok
    | exact QX.Pick TYok
    | exact QX.Un TYok
    | exact QX.Len TYok
    | exact QX.Idx TYok
    | (apply Q_call (e1); exact EvL.auto; exact rfl)
    | (apply Q_call (e2); exact EvL.auto; exact rfl)
    | (apply Q_call (e3); exact EvL.auto; exact rfl)
    | (apply Q_call (e4); exact EvL.auto; exact rfl)
    | (apply Q_call (e5); exact EvL.auto; exact rfl)
    | (apply Q_call (e6); exact EvL.auto; exact rfl)); exact rfl)
                  | refine SX.Alloc TYok (h := ?_)
                  | refine SX.Store TYok (h := ?_)
                  | refine SX.Lit TYok (h := ?_)
                  | refine SX.App TYok (h := ?_)
                  | refine SX.Box TYok (h := ?_)
                  | (apply RG.gT; exact rfl; exact rfl; (first | assumption | decide))
                  | (apply RG.gF; exact rfl; exact rfl; (first | assumption | decide | (rw [ne_eq, Bool.not_eq_true]; assumption) | (rw [ne_eq, Bool.not_eq_false]; assumption)); exact rfl)
                  | (refine W.condA (ht := fun hb => ?_) (hf := fun hb => ?_) <;> (try simp at hb) <;> (try (exfalso; omega))))
                refine ⟨(), trivial, ?_⟩
                exact Le.auto
              | true =>
                rw [p5] at e6
                repeat' (first
                  | apply RG.nil
                  | apply Lex.nil
                  | apply Then.n
                  | apply Then.r
                  | apply Then.x
                  | apply InBlock.n
                  | apply InBlock.r
                  | apply InBlock.hit
                  | (apply InBlock.miss; exact rfl)
                  | apply W.seq
                  | apply W.region
                  | apply W.block
                  | apply W.skip
                  | apply W.ret
                  | apply W.exit
                  | ((first | apply U_ | (apply Ug_; exact rfl; exact rfl) | (apply Ugq_; exact rfl; exact rfl)); (first
    | exact QX.Move TYok
    | exact QX.Asg TYok
    | exact QX.Fld TYok
    | exact QX.Ld TYok
    | exact QX.Bin TYok
    | exact QX.Pick TYok
    | exact QX.Un TYok
    | exact QX.Len TYok
    | exact QX.Idx TYok
    | (apply Q_call (e1); exact EvL.auto; exact rfl)
    | (apply Q_call (e2); exact EvL.auto; exact rfl)
    | (apply Q_call (e3); exact EvL.auto; exact rfl)
    | (apply Q_call (e4); exact EvL.auto; exact rfl)
    | (apply Q_call (e5); exact EvL.auto; exact rfl)
    | (apply Q_call (e6); exact EvL.auto; exact rfl)); exact rfl)
                  | refine SX.Alloc TYok (h := ?_)
                  | refine SX.Store TYok (h := ?_)
                  | refine SX.Lit TYok (h := ?_)
                  | refine SX.App TYok (h := ?_)
                  | refine SX.Box TYok (h := ?_)
                  | (apply RG.gT; exact rfl; exact rfl; (first | assumption | decide))
                  | (apply RG.gF; exact rfl; exact rfl; (first | assumption | decide | (rw [ne_eq, Bool.not_eq_true]; assumption) | (rw [ne_eq, Bool.not_eq_false]; assumption)); exact rfl)
                  | (refine W.condA (ht := fun hb => ?_) (hf := fun hb => ?_) <;> (try simp at hb) <;> (try (exfalso; omega))))
                refine ⟨(), trivial, ?_⟩
                exact Le.auto
  case hy =>
  rintro _ _
  apply W.norm (by repeat (first | exact App.nil | apply App.cons))
  apply W.seq
  apply cutK (σ := Unit) 177 [] (fun _ => True) (fun _ => [(1, (True, .addr 1 0 0)), (3, (True, .pv (cB (datesF x)))), (4, (True, .pv (cB (oneR x)))), (5, (True, .pv (cB (twoR x))))]) (fun _ => [(1, ⟨40, 25, [encN x]⟩)])
  case hp => repeat (first | exact Pick.nil | apply Pick.cons rfl)
  case hx =>
    unfold twoR
    cases p0 : [x.cap].all (inF 0 10000) with
    | false =>
      rw [p0] at f1
      repeat' (first
        | apply RG.nil
        | apply Lex.nil
        | apply Then.n
        | apply Then.r
        | apply Then.x
        | apply InBlock.n
        | apply InBlock.r
        | apply InBlock.hit
        | (apply InBlock.miss; exact rfl)
        | apply W.seq
        | apply W.region
        | apply W.block
        | apply W.skip
        | apply W.ret
        | apply W.exit
        | ((first | apply U_ | (apply Ug_; exact rfl; exact rfl) | (apply Ugq_; exact rfl; exact rfl)); (first
    | exact QX.Move TYok
    | exact QX.Asg TYok
    | exact QX.Fld TYok
    | exact QX.Ld TYok
    | exact QX.Bin TYok
    | exact QX.Pick TYok
    | exact QX.Un TYok
    | exact QX.Len TYok
    | exact QX.Idx TYok
    | (apply Q_call (f1); exact EvL.auto; exact rfl)
    | (apply Q_call (f2); exact EvL.auto; exact rfl)
    | (apply Q_call (f3); exact EvL.auto; exact rfl)
    | (apply Q_call (f4); exact EvL.auto; exact rfl)); exact rfl)
        | refine SX.Alloc TYok (h := ?_)
        | refine SX.Store TYok (h := ?_)
        | refine SX.Lit TYok (h := ?_)
        | refine SX.App TYok (h := ?_)
        | refine SX.Box TYok (h := ?_)
        | (apply RG.gT; exact rfl; exact rfl; (first | assumption | decide))
        | (apply RG.gF; exact rfl; exact rfl; (first | assumption | decide | (rw [ne_eq, Bool.not_eq_true]; assumption) | (rw [ne_eq, Bool.not_eq_false]; assumption)); exact rfl)
        | (refine W.condA (ht := fun hb => ?_) (hf := fun hb => ?_) <;> (try simp at hb) <;> (try (exfalso; omega))))
      refine ⟨(), trivial, ?_⟩
      exact Le.auto
    | true =>
      rw [p0] at f1
      cases p1 : [x.cross].all (inF (-1) 1000000000000000) with
      | false =>
        rw [p1] at f2
        repeat' (first
          | apply RG.nil
          | apply Lex.nil
          | apply Then.n
          | apply Then.r
          | apply Then.x
          | apply InBlock.n
          | apply InBlock.r
          | apply InBlock.hit
          | (apply InBlock.miss; exact rfl)
          | apply W.seq
          | apply W.region
          | apply W.block
          | apply W.skip
          | apply W.ret
          | apply W.exit
          | ((first | apply U_ | (apply Ug_; exact rfl; exact rfl) | (apply Ugq_; exact rfl; exact rfl)); (first
    | exact QX.Move TYok
    | exact QX.Asg TYok
    | exact QX.Fld TYok
    | exact QX.Ld TYok
    | exact QX.Bin TYok
    | exact QX.Pick TYok
    | exact QX.Un TYok
    | exact QX.Len TYok
    | exact QX.Idx TYok
    | (apply Q_call (f1); exact EvL.auto; exact rfl)
    | (apply Q_call (f2); exact EvL.auto; exact rfl)
    | (apply Q_call (f3); exact EvL.auto; exact rfl)
    | (apply Q_call (f4); exact EvL.auto; exact rfl)); exact rfl)
          | refine SX.Alloc TYok (h := ?_)
          | refine SX.Store TYok (h := ?_)
          | refine SX.Lit TYok (h := ?_)
          | refine SX.App TYok (h := ?_)
          | refine SX.Box TYok (h := ?_)
          | (apply RG.gT; exact rfl; exact rfl; (first | assumption | decide))
          | (apply RG.gF; exact rfl; exact rfl; (first | assumption | decide | (rw [ne_eq, Bool.not_eq_true]; assumption) | (rw [ne_eq, Bool.not_eq_false]; assumption)); exact rfl)
          | (refine W.condA (ht := fun hb => ?_) (hf := fun hb => ?_) <;> (try simp at hb) <;> (try (exfalso; omega))))
        refine ⟨(), trivial, ?_⟩
        exact Le.auto
      | true =>
        rw [p1] at f2
        cases p2 : [x.notice, x.sink].all (inF 0 1000) with
        | false =>
          rw [p2] at f3
          repeat' (first
            | apply RG.nil
            | apply Lex.nil
            | apply Then.n
            | apply Then.r
            | apply Then.x
            | apply InBlock.n
            | apply InBlock.r
            | apply InBlock.hit
            | (apply InBlock.miss; exact rfl)
            | apply W.seq
            | apply W.region
            | apply W.block
            | apply W.skip
            | apply W.ret
            | apply W.exit
            | ((first | apply U_ | (apply Ug_; exact rfl; exact rfl) | (apply Ugq_; exact rfl; exact rfl)); (first
    | exact QX.Move TYok
    | exact QX.Asg TYok
    | exact QX.Fld TYok
    | exact QX.Ld TYok
    | exact QX.Bin TYok
    | exact QX.Pick TYok
    | exact QX.Un TYok
    | exact QX.Len TYok
    | exact QX.Idx TYok
    | (apply Q_call (f1); exact EvL.auto; exact rfl)
    | (apply Q_call (f2); exact EvL.auto; exact rfl)
    | (apply Q_call (f3); exact EvL.auto; exact rfl)
    | (apply Q_call (f4); exact EvL.auto; exact rfl)); exact rfl)
            | refine SX.Alloc TYok (h := ?_)
            | refine SX.Store TYok (h := ?_)
            | refine SX.Lit TYok (h := ?_)
            | refine SX.App TYok (h := ?_)
            | refine SX.Box TYok (h := ?_)
            | (apply RG.gT; exact rfl; exact rfl; (first | assumption | decide))
            | (apply RG.gF; exact rfl; exact rfl; (first | assumption | decide | (rw [ne_eq, Bool.not_eq_true]; assumption) | (rw [ne_eq, Bool.not_eq_false]; assumption)); exact rfl)
            | (refine W.condA (ht := fun hb => ?_) (hf := fun hb => ?_) <;> (try simp at hb) <;> (try (exfalso; omega))))
          refine ⟨(), trivial, ?_⟩
          exact Le.auto
        | true =>
          rw [p2] at f3
          cases p3 : [x.majority, x.fast].all (inF 1 1000) with
          | false =>
            rw [p3] at f4
            repeat' (first
              | apply RG.nil
              | apply Lex.nil
              | apply Then.n
              | apply Then.r
              | apply Then.x
              | apply InBlock.n
              | apply InBlock.r
              | apply InBlock.hit
              | (apply InBlock.miss; exact rfl)
              | apply W.seq
              | apply W.region
              | apply W.block
              | apply W.skip
              | apply W.ret
              | apply W.exit
              | ((first | apply U_ | (apply Ug_; exact rfl; exact rfl) | (apply Ugq_; exact rfl; exact rfl)); (first
    | exact QX.Move TYok
    | exact QX.Asg TYok
    | exact QX.Fld TYok
    | exact QX.Ld TYok
    | exact QX.Bin TYok
    | exact QX.Pick TYok
    | exact QX.Un TYok
    | exact QX.Len TYok
    | exact QX.Idx TYok
    | (apply Q_call (f1); exact EvL.auto; exact rfl)
    | (apply Q_call (f2); exact EvL.auto; exact rfl)
    | (apply Q_call (f3); exact EvL.auto; exact rfl)
    | (apply Q_call (f4); exact EvL.auto; exact rfl)); exact rfl)
              | refine SX.Alloc TYok (h := ?_)
              | refine SX.Store TYok (h := ?_)
              | refine SX.Lit TYok (h := ?_)
              | refine SX.App TYok (h := ?_)
              | refine SX.Box TYok (h := ?_)
              | (apply RG.gT; exact rfl; exact rfl; (first | assumption | decide))
              | (apply RG.gF; exact rfl; exact rfl; (first | assumption | decide | (rw [ne_eq, Bool.not_eq_true]; assumption) | (rw [ne_eq, Bool.not_eq_false]; assumption)); exact rfl)
              | (refine W.condA (ht := fun hb => ?_) (hf := fun hb => ?_) <;> (try simp at hb) <;> (try (exfalso; omega))))
            refine ⟨(), trivial, ?_⟩
            exact Le.auto
          | true =>
            rw [p3] at f4
            repeat' (first
              | apply RG.nil
              | apply Lex.nil
              | apply Then.n
              | apply Then.r
              | apply Then.x
              | apply InBlock.n
              | apply InBlock.r
              | apply InBlock.hit
              | (apply InBlock.miss; exact rfl)
              | apply W.seq
              | apply W.region
              | apply W.block
              | apply W.skip
              | apply W.ret
              | apply W.exit
              | ((first | apply U_ | (apply Ug_; exact rfl; exact rfl) | (apply Ugq_; exact rfl; exact rfl)); (first
    | exact QX.Move TYok
    | exact QX.Asg TYok
    | exact QX.Fld TYok
    | exact QX.Ld TYok
    | exact QX.Bin TYok
    | exact QX.Pick TYok
    | exact QX.Un TYok
    | exact QX.Len TYok
    | exact QX.Idx TYok
    | (apply Q_call (f1); exact EvL.auto; exact rfl)
    | (apply Q_call (f2); exact EvL.auto; exact rfl)
    | (apply Q_call (f3); exact EvL.auto; exact rfl)
    | (apply Q_call (f4); exact EvL.auto; exact rfl)); exact rfl)
              | refine SX.Alloc TYok (h := ?_)
              | refine SX.Store TYok (h := ?_)
              | refine SX.Lit TYok (h := ?_)
              | refine SX.App TYok (h := ?_)
              | refine SX.Box TYok (h := ?_)
              | (apply RG.gT; exact rfl; exact rfl; (first | assumption | decide))
              | (apply RG.gF; exact rfl; exact rfl; (first | assumption | decide | (rw [ne_eq, Bool.not_eq_true]; assumption) | (rw [ne_eq, Bool.not_eq_false]; assumption)); exact rfl)
              | (refine W.condA (ht := fun hb => ?_) (hf := fun hb => ?_) <;> (try simp at hb) <;> (try (exfalso; omega))))
            refine ⟨(), trivial, ?_⟩
            exact Le.auto
  case hy =>
  rintro _ _
  apply W.norm (by repeat (first | exact App.nil | apply App.cons))
  repeat' (first
    | apply RG.nil
    | apply Lex.nil
    | apply Then.n
    | apply Then.r
    | apply Then.x
    | apply InBlock.n
    | apply InBlock.r
    | apply InBlock.hit
    | (apply InBlock.miss; exact rfl)
    | apply W.seq
    | apply W.region
    | apply W.block
    | apply W.skip
    | apply W.ret
    | apply W.exit
    | ((first | apply U_ | (apply Ug_; exact rfl; exact rfl) | (apply Ugq_; exact rfl; exact rfl)); (first
    | exact QX.Move TYok
    | exact QX.Asg TYok
    | exact QX.Fld TYok
    | exact QX.Ld TYok
    | exact QX.Bin TYok
    | exact QX.Pick TYok
    | exact QX.Un TYok
    | exact QX.Len TYok
    | exact QX.Idx TYok
    | (apply Q_call (g1); exact EvL.auto; exact rfl)
    | (apply Q_call (g2); exact EvL.auto; exact rfl)
    | (apply Q_call (g3); exact EvL.auto; exact rfl)); exact rfl)
    | refine SX.Alloc TYok (h := ?_)
    | refine SX.Store TYok (h := ?_)
    | refine SX.Lit TYok (h := ?_)
    | refine SX.App TYok (h := ?_)
    | refine SX.Box TYok (h := ?_)
    | (apply RG.gT; exact rfl; exact rfl; (first | assumption | decide))
    | (apply RG.gF; exact rfl; exact rfl; (first | assumption | decide | (rw [ne_eq, Bool.not_eq_true]; assumption) | (rw [ne_eq, Bool.not_eq_false]; assumption)); exact rfl)
    | (refine W.condA (ht := fun hb => ?_) (hf := fun hb => ?_) <;> (try simp at hb) <;> (try (exfalso; omega))))
  · have e0 : rightN x = false := by
      cases hq : rightN x with
      | false => rfl
      | true =>
        exfalso
        simp only [rightN, hdR, Bool.and_eq_true, decide_eq_true_iff] at hq
        obtain ⟨⟨⟨⟨⟨⟨⟨⟨v1, v2⟩, v3⟩, v4⟩, v5⟩, v6⟩, v7⟩, v8⟩, v9⟩ := hq
        simp [v1, v2, v3, v4, v5, v7] at hb
        omega
    rw [e0]
    exact Fin.ret ResL.auto
  have hhd : hdR x = true := by
    simp only [hdR, Bool.and_eq_true, decide_eq_true_iff]
    obtain ⟨⟨⟨⟨⟨⟨v1, v2⟩, v3⟩, v4⟩, v5⟩, v6⟩, v7⟩ := hb
    exact ⟨⟨⟨⟨⟨⟨v1, v2⟩, v3⟩, v4⟩, v5⟩, v6⟩, v7⟩
  refine W.weaken (Le.nilOwn (t := 6) (n := 131) (E := 9) (sz := 1) rfl) ?_
  refine W.weaken (Le.nilOwn (t := 7) (n := 144) (E := 9) (sz := 1) rfl) ?_
  apply W.loopP (σ := Nat) 177 [1, 121, 122] (fun k => k ≤ x.lets.length) (fun k => [(6, (True, .slc 131)), (7, (True, .slc 144)), (123, vI k)]) (fun k => [(1, ⟨40, 25, [encN x]⟩), (131, ⟨9, 1, ((x.lets.take k).map Let.name).map encS⟩), (144, ⟨9, 1, ([] : List Str).map encS⟩)]) (fun k => x.lets.length - k) (0)
  case hp => repeat (first | exact Pick.nil | apply Pick.cons rfl)
  case h0 =>
    refine ⟨by simp, ?_⟩
    exact Le.auto
  case round =>
    rintro k hk1
    apply W.norm (by repeat (first | exact App.nil | apply App.cons))
    by_cases hk : k < x.lets.length
    · have hl : ((x.lets.take k).map Let.name).length ≤ 1000 := by simp; omega
      have ht := hm1 k hk
      generalize hgl : (x.lets.take k).map Let.name = nl at hl ht
      repeat' (first
        | apply RG.nil
        | apply Lex.nil
        | apply Then.n
        | apply Then.r
        | apply Then.x
        | apply InBlock.n
        | apply InBlock.r
        | apply InBlock.hit
        | (apply InBlock.miss; exact rfl)
        | apply W.seq
        | apply W.region
        | apply W.block
        | apply W.skip
        | apply W.ret
        | apply W.exit
        | ((first | apply U_ | (apply Ug_; exact rfl; exact rfl) | (apply Ugq_; exact rfl; exact rfl)); (first
    | exact QX.Move TYok
    | exact QX.Asg TYok
    | exact QX.Fld TYok
    | exact QX.Ld TYok
    | exact QX.Bin TYok
    | exact QX.Pick TYok
    | exact QX.Un TYok
    | exact QX.Len TYok
    | exact QX.Idx TYok); exact rfl)
        | refine SX.Alloc TYok (h := ?_)
        | refine SX.Store TYok (h := ?_)
        | refine SX.Lit TYok (h := ?_)
        | refine SX.App TYok (h := ?_)
        | refine SX.Box TYok (h := ?_)
        | (apply RG.gT; exact rfl; exact rfl; (first | assumption | decide))
        | (apply RG.gF; exact rfl; exact rfl; (first | assumption | decide | (rw [ne_eq, Bool.not_eq_true]; assumption) | (rw [ne_eq, Bool.not_eq_false]; assumption)); exact rfl)
        | (refine W.condA (ht := fun hb => ?_) (hf := fun hb => ?_) <;> (try simp at hb) <;> (try (exfalso; omega))))
      refine ⟨k + 1, by omega, ?_, ?_⟩
      · simp only [ht, List.map_append, List.map_cons, List.map_nil]
        exact Le.auto
      · (try simp only); omega
    · obtain rfl : k = x.lets.length := by omega
      simp only [List.take_length]
      repeat' (first
        | apply RG.nil
        | apply Lex.nil
        | apply Then.n
        | apply Then.r
        | apply Then.x
        | apply InBlock.n
        | apply InBlock.r
        | apply InBlock.hit
        | (apply InBlock.miss; exact rfl)
        | apply W.seq
        | apply W.region
        | apply W.block
        | apply W.skip
        | apply W.ret
        | apply W.exit
        | ((first | apply U_ | (apply Ug_; exact rfl; exact rfl) | (apply Ugq_; exact rfl; exact rfl)); (first
    | exact QX.Move TYok
    | exact QX.Asg TYok
    | exact QX.Fld TYok
    | exact QX.Ld TYok
    | exact QX.Bin TYok
    | exact QX.Pick TYok
    | exact QX.Un TYok
    | exact QX.Len TYok
    | exact QX.Idx TYok); exact rfl)
        | refine SX.Alloc TYok (h := ?_)
        | refine SX.Store TYok (h := ?_)
        | refine SX.Lit TYok (h := ?_)
        | refine SX.App TYok (h := ?_)
        | refine SX.Box TYok (h := ?_)
        | (apply RG.gT; exact rfl; exact rfl; (first | assumption | decide))
        | (apply RG.gF; exact rfl; exact rfl; (first | assumption | decide | (rw [ne_eq, Bool.not_eq_true]; assumption) | (rw [ne_eq, Bool.not_eq_false]; assumption)); exact rfl)
        | (refine W.condA (ht := fun hb => ?_) (hf := fun hb => ?_) <;> (try simp at hb) <;> (try (exfalso; omega))))
      apply W.loopP (σ := Nat) 177 [1, 134, 135] (fun k => k ≤ x.covs.length) (fun k => [(6, (True, .slc 131)), (7, (True, .slc 144)), (136, vI k)]) (fun k => [(1, ⟨40, 25, [encN x]⟩), (131, ⟨9, 1, (x.lets.map Let.name).map encS⟩), (144, ⟨9, 1, ((x.covs.take k).map Cov.name).map encS⟩)]) (fun k => x.covs.length - k) (0)
      case hp => repeat (first | exact Pick.nil | apply Pick.cons rfl)
      case h0 =>
        refine ⟨by simp, ?_⟩
        exact Le.auto
      case round =>
        rintro k hk1
        apply W.norm (by repeat (first | exact App.nil | apply App.cons))
        by_cases hk : k < x.covs.length
        · have hl : ((x.covs.take k).map Cov.name).length ≤ 1000 := by simp; omega
          have ht := hm2 k hk
          generalize hgl : (x.covs.take k).map Cov.name = nl at hl ht
          repeat' (first
            | apply RG.nil
            | apply Lex.nil
            | apply Then.n
            | apply Then.r
            | apply Then.x
            | apply InBlock.n
            | apply InBlock.r
            | apply InBlock.hit
            | (apply InBlock.miss; exact rfl)
            | apply W.seq
            | apply W.region
            | apply W.block
            | apply W.skip
            | apply W.ret
            | apply W.exit
            | ((first | apply U_ | (apply Ug_; exact rfl; exact rfl) | (apply Ugq_; exact rfl; exact rfl)); (first
    | exact QX.Move TYok
    | exact QX.Asg TYok
    | exact QX.Fld TYok
    | exact QX.Ld TYok
    | exact QX.Bin TYok
    | exact QX.Pick TYok
    | exact QX.Un TYok
    | exact QX.Len TYok
    | exact QX.Idx TYok); exact rfl)
            | refine SX.Alloc TYok (h := ?_)
            | refine SX.Store TYok (h := ?_)
            | refine SX.Lit TYok (h := ?_)
            | refine SX.App TYok (h := ?_)
            | refine SX.Box TYok (h := ?_)
            | (apply RG.gT; exact rfl; exact rfl; (first | assumption | decide))
            | (apply RG.gF; exact rfl; exact rfl; (first | assumption | decide | (rw [ne_eq, Bool.not_eq_true]; assumption) | (rw [ne_eq, Bool.not_eq_false]; assumption)); exact rfl)
            | (refine W.condA (ht := fun hb => ?_) (hf := fun hb => ?_) <;> (try simp at hb) <;> (try (exfalso; omega))))
          refine ⟨k + 1, by omega, ?_, ?_⟩
          · simp only [ht, List.map_append, List.map_cons, List.map_nil]
            exact Le.auto
          · (try simp only); omega
        · obtain rfl : k = x.covs.length := by omega
          simp only [List.take_length]
          repeat' (first
            | apply RG.nil
            | apply Lex.nil
            | apply Then.n
            | apply Then.r
            | apply Then.x
            | apply InBlock.n
            | apply InBlock.r
            | apply InBlock.hit
            | (apply InBlock.miss; exact rfl)
            | apply W.seq
            | apply W.region
            | apply W.block
            | apply W.skip
            | apply W.ret
            | apply W.exit
            | ((first | apply U_ | (apply Ug_; exact rfl; exact rfl) | (apply Ugq_; exact rfl; exact rfl)); (first
    | exact QX.Move TYok
    | exact QX.Asg TYok
    | exact QX.Fld TYok
    | exact QX.Ld TYok
    | exact QX.Bin TYok
    | exact QX.Pick TYok
    | exact QX.Un TYok
    | exact QX.Len TYok
    | exact QX.Idx TYok
    | (apply Q_call (g4); exact EvL.auto; exact rfl)
    | (apply Q_call (g5); exact EvL.auto; exact rfl)
    | (apply Q_calld (g6); exact EvD.auto)
    | (apply Q_call (g7); exact EvL.auto; exact rfl)
    | (apply Q_call (g8); exact EvL.auto; exact rfl)
    | (apply Q_call (g9); exact EvL.auto; exact rfl)); exact rfl)
            | refine SX.Alloc TYok (h := ?_)
            | refine SX.Store TYok (h := ?_)
            | refine SX.Lit TYok (h := ?_)
            | refine SX.App TYok (h := ?_)
            | refine SX.Box TYok (h := ?_)
            | (apply RG.gT; exact rfl; exact rfl; (first | assumption | decide))
            | (apply RG.gF; exact rfl; exact rfl; (first | assumption | decide | (rw [ne_eq, Bool.not_eq_true]; assumption) | (rw [ne_eq, Bool.not_eq_false]; assumption)); exact rfl)
            | (refine W.condA (ht := fun hb => ?_) (hf := fun hb => ?_) <;> (try simp at hb) <;> (try (exfalso; omega))))
          · have e0 : rightN x = false := by
              have : midR x = false := by
                unfold midR
                rcases hb with (h | h) | h <;> simp [h]
              rw [rightN, this, Bool.and_false, Bool.false_and]
            rw [e0]
            exact Fin.ret ResL.auto
          · have hm : midR x = true := by
              unfold midR
              rw [hb.1.1, hb.1.2, hb.2]; rfl
            rw [rightN, hhd, hm, Bool.true_and, Bool.true_and]
            exact Fin.ret ResL.auto
theorem wrong_ok (x : Ind) (hx : OkN x) (hsm : x.lets.length ≤ 1000 ∧ x.covs.length ≤ 1000) : ACalls Try.prog 41 [aN x] (.pv (cB (!rightN x))) := by
  have h := rightI_ok x hx hsm
  refine ACalls.of_W (qs := [cB (!rightN x)]) [2] 6 Try.func41 (by kernel_rfl) rfl rfl rfl fun G => ?_
  refine W.initA (hw := ?_)
  repeat' (first
    | apply RG.nil
    | apply Lex.nil
    | apply Then.n
    | apply Then.r
    | apply Then.x
    | apply InBlock.n
    | apply InBlock.r
    | apply InBlock.hit
    | (apply InBlock.miss; exact rfl)
    | apply W.seq
    | apply W.region
    | apply W.block
    | apply W.skip
    | apply W.ret
    | apply W.exit
    | ((first | apply U_); (first
    | exact QX.Asg TYok
    | exact QX.Ld TYok
    | exact QX.Un TYok
    | (apply Q_calld (h); exact EvD.auto)); exact rfl)
    | refine SX.Box TYok (h := ?_)
    | (refine W.condA (ht := fun hb => ?_) (hf := fun hb => ?_) <;> (try simp at hb) <;> (try (exfalso; omega))))
  exact Fin.ret ResL.auto
theorem hd_iff (x : Ind) : hdR x = true ↔ nameF x.name = true ∧ nameF x.issuer = true ∧ inF 1 1000000000000000 x.face = true ∧ inF 0 200000 x.start = true ∧ inF 0 200000 x.due = true ∧ x.start < x.due ∧ inF 1 120 x.every = true ∧ inF 0 2 x.count = true ∧ inF 0 3 x.adjust = true ∧ inF 0 100 x.record = true ∧ inF 0 9 x.rank = true ∧ inF 0 10000 x.cap = true ∧ inF (-1) 1000000000000000 x.cross = true ∧ inF 0 1000 x.notice = true ∧ inF 0 1000 x.sink = true ∧ inF 1 1000 x.majority = true ∧ inF 1 1000 x.fast = true ∧ uniqF x.favour 20 = true ∧ (x.calls.length : Int) ≤ 20 := by
  simp only [hdR, datesF, oneR, twoR, List.all_cons, List.all_nil, Bool.and_true, Bool.and_eq_true, decide_eq_true_iff, and_assoc]
  constructor
  · rintro ⟨a1, a2, a3, b1, b2, b3, b4, b5, b6, c1, c2, c3, c4, c5, c6, d1, d2, d3, d4⟩
    exact ⟨d1, d2, b1, a1, a2, a3, b2, b3, b4, b5, b6, c1, c2, c3, c4, c5, c6, d4, d3⟩
  · rintro ⟨d1, d2, b1, a1, a2, a3, b2, b3, b4, b5, b6, c1, c2, c3, c4, c5, c6, d4, d3⟩
    exact ⟨a1, a2, a3, b1, b2, b3, b4, b5, b6, c1, c2, c3, c4, c5, c6, d1, d2, d3, d4⟩
end Go.Proofs.Ytionjeodcmnneaa
