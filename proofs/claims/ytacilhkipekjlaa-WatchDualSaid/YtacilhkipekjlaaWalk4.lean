/-
  Frames and days.
-/
import Derived.Test.YtacilhkipekjlaaWalk3
set_option linter.unusedVariables false
set_option linter.unusedSimpArgs false
set_option maxHeartbeats 8000000
namespace Go.Proofs.Ytacilhkipekjlaa
open Lf Go
attribute [local irreducible] PureOp EffOp Ev RG W Then InBlock Lf.Fin nth App InitE Pick SubE SubF SubG EvL EvD EvP EvR ResL Lf.Lex SubR SubBR RA RAll EvC FinO FinM ResM FinB ResD

/-! ### frames, atoms, days -/
def pastF (op : Int) : Bool := decide (op = 16) || decide (op = 17) || decide (op = 18)
def framedF (op : Int) : Bool := pastF op || decide (op = 12) || decide (op = 13) || decide (op = 14)
theorem past_ok (op : Int) : ACalls Try.prog 36 [cI op] (.pv (cB (pastF op))) := by
  refine ACalls.of_W (qs := [_]) [2] 13 Try.func36 (by kernel_rfl) rfl rfl rfl fun G => ?_
  refine W.initA (hw := ?_)
  repeat' (first
    | apply RG.nil
    | apply Lex.nil
    | apply Then.n
    | apply Then.r
    | apply Then.x
    | apply InBlock.n
    | apply InBlock.r
    | apply InBlock.hit
    | (apply InBlock.miss; exact rfl)
    | apply W.seq
    | apply W.region
    | apply W.block
    | apply W.skip
    | apply W.ret
    | apply W.exit
    | ((first | apply U_ | (apply Ug_; exact rfl; exact rfl) | (apply Ugq_; exact rfl; exact rfl)); (first
    | exact QX.Move TYok
    | exact QX.Asg TYok
    | exact QX.Bin TYok
    | exact QX.Pick TYok); exact rfl)
    | (apply S_isnil TYok; exact rfl; exact rfl; exact rfl; exact Ev.auto; intro bn hnil)
    | (apply RG.gT; exact rfl; exact rfl; (first | assumption | decide))
    | (apply RG.gF; exact rfl; exact rfl; (first | assumption | decide | (rw [ne_eq, Bool.not_eq_true]; assumption) | (rw [ne_eq, Bool.not_eq_false]; assumption)); exact rfl)
    | (refine W.condA (ht := fun hb => ?_) (hf := fun hb => ?_) <;> (try simp at hb) <;> (try (exfalso; omega))))
  exact Fin.ret ResL.auto
theorem framed_ok (op : Int) : ACalls Try.prog 33 [cI op] (.pv (cB (framedF op))) := by
  refine ACalls.of_W (qs := [_]) [2] 17 Try.func33 (by kernel_rfl) rfl rfl rfl fun G => ?_
  refine W.initA (hw := ?_)
  repeat' (first
    | apply RG.nil
    | apply Lex.nil
    | apply Then.n
    | apply Then.r
    | apply Then.x
    | apply InBlock.n
    | apply InBlock.r
    | apply InBlock.hit
    | (apply InBlock.miss; exact rfl)
    | apply W.seq
    | apply W.region
    | apply W.block
    | apply W.skip
    | apply W.ret
    | apply W.exit
    | ((first | apply U_ | (apply Ug_; exact rfl; exact rfl) | (apply Ugq_; exact rfl; exact rfl)); (first
    | exact QX.Move TYok
    | exact QX.Asg TYok
    | exact QX.Bin TYok
    | exact QX.Pick TYok
    | (apply Q_call (past_ok op); exact EvL.auto; exact rfl)); exact rfl)
    | (apply S_isnil TYok; exact rfl; exact rfl; exact rfl; exact Ev.auto; intro bn hnil)
    | (apply RG.gT; exact rfl; exact rfl; (first | assumption | decide))
    | (apply RG.gF; exact rfl; exact rfl; (first | assumption | decide | (rw [ne_eq, Bool.not_eq_true]; assumption) | (rw [ne_eq, Bool.not_eq_false]; assumption)); exact rfl)
    | (refine W.condA (ht := fun hb => ?_) (hf := fun hb => ?_) <;> (try simp at hb) <;> (try (exfalso; omega))))
  exact Fin.ret ResL.auto
theorem rframed_ok (op : Int) : ACalls Try.prog 44 [cI op] (.pv (cB (framedF op))) := by
  refine ACalls.of_W (qs := [cB (framedF op)]) [2] 25 Try.func44 (by kernel_rfl) rfl rfl rfl fun G => ?_
  refine W.initA (hw := ?_)
  repeat' (first
    | apply RG.nil
    | apply Lex.nil
    | apply Then.n
    | apply Then.r
    | apply Then.x
    | apply InBlock.n
    | apply InBlock.r
    | apply InBlock.hit
    | (apply InBlock.miss; exact rfl)
    | apply W.seq
    | apply W.region
    | apply W.block
    | apply W.skip
    | apply W.ret
    | apply W.exit
    | ((first | apply U_ | (apply Ug_; exact rfl; exact rfl) | (apply Ugq_; exact rfl; exact rfl)); (first
    | exact QX.Move TYok
    | exact QX.Asg TYok
    | exact QX.Bin TYok
    | exact QX.Pick TYok); exact rfl)
    | (apply S_isnil TYok; exact rfl; exact rfl; exact rfl; exact Ev.auto; intro bn hnil)
    | (apply RG.gT; exact rfl; exact rfl; (first | assumption | decide))
    | (apply RG.gF; exact rfl; exact rfl; (first | assumption | decide | (rw [ne_eq, Bool.not_eq_true]; assumption) | (rw [ne_eq, Bool.not_eq_false]; assumption)); exact rfl)
    | (refine W.condA (ht := fun hb => ?_) (hf := fun hb => ?_) <;> (try simp at hb) <;> (try (exfalso; omega))))
  have e : framedF op = (decide (op = 12) || decide (op = 13) || decide (op = 14) || decide (op = 16) || decide (op = 17) || decide (op = 18)) := by
    rw [Bool.eq_iff_iff]; simp [framedF, pastF]; omega
  rw [e]
  exact Fin.ret ResL.auto
mutual
def timedF : Exp → Bool
  | .mk op n u s l => pastF op || timedFs l
def timedFs : List Exp → Bool
  | [] => false
  | e :: r => timedF e || timedFs r
end
theorem timedFs_any : ∀ l, timedFs l = l.any timedF
  | [] => rfl
  | e :: r => by rw [timedFs, timedFs_any r]; rfl
theorem timed_ok (e : Exp) : OkE e → ACalls Try.prog 24 [aE e] (.pv (cB (timedF e))) := by
  refine Exp.ind (P := fun e => OkE e → ACalls Try.prog 24 [aE e] (.pv (cB (timedF e)))) (fun op n u s l ih he => ?_) e
  cases he with
  | mk hs hl h =>
  rw [aE_mk, timedF, timedFs_any]
  refine ACalls.of_W (qs := [cB (pastF op || l.any timedF)]) [2] 11 Try.func24 (by kernel_rfl) rfl rfl rfl fun G => ?_
  refine W.initA (hw := ?_)
  repeat' (first
    | apply RG.nil
    | apply Lex.nil
    | apply Then.n
    | apply Then.r
    | apply Then.x
    | apply InBlock.n
    | apply InBlock.r
    | apply InBlock.hit
    | (apply InBlock.miss; exact rfl)
    | apply W.seq
    | apply W.region
    | apply W.block
    | apply W.skip
    | apply W.ret
    | apply W.exit
    | ((first | apply U_ | (apply Ug_; exact rfl; exact rfl) | (apply Ugq_; exact rfl; exact rfl)); (first
    | exact QX.Move TYok
    | exact QX.Asg TYok
    | exact QX.Fld TYok
    | exact QX.Ld TYok
    | exact QX.Pick TYok
    | (apply Q_call (past_ok op); exact EvL.auto; exact rfl)
    | (apply Q_call (containsE_ok l 24 [] timedF hl (fun x hx => ih x hx (h x hx))); exact EvL.auto; exact rfl)); exact rfl)
    | refine SX.Box TYok (h := ?_)
    | (apply RG.gT; exact rfl; exact rfl; (first | assumption | decide))
    | (apply RG.gF; exact rfl; exact rfl; (first | assumption | decide | (rw [ne_eq, Bool.not_eq_true]; assumption) | (rw [ne_eq, Bool.not_eq_false]; assumption)); exact rfl)
    | (refine W.condA (ht := fun hb => ?_) (hf := fun hb => ?_) <;> (try simp at hb) <;> (try (exfalso; omega))))
  exact Fin.ret ResL.auto
theorem rtimed_ok (e : Exp) : OkE e → ACalls Try.prog 43 [aE e] (.pv (cB (timedF e))) := by
  refine Exp.ind (P := fun e => OkE e → ACalls Try.prog 43 [aE e] (.pv (cB (timedF e)))) (fun op n u s l ih he => ?_) e
  cases he with
  | mk hs hl h =>
  rw [aE_mk, timedF, timedFs_any]
  refine ACalls.of_W (qs := [cB (pastF op || l.any timedF)]) [2] 32 Try.func43 (by kernel_rfl) rfl rfl rfl fun G => ?_
  refine W.initA (hw := ?_)
  repeat' (first
    | apply RG.nil
    | apply Lex.nil
    | apply Then.n
    | apply Then.r
    | apply Then.x
    | apply InBlock.n
    | apply InBlock.r
    | apply InBlock.hit
    | (apply InBlock.miss; exact rfl)
    | apply W.seq
    | apply W.region
    | apply W.block
    | apply W.skip
    | apply W.ret
    | apply W.exit
    | ((first | apply U_ | (apply Ug_; exact rfl; exact rfl) | (apply Ugq_; exact rfl; exact rfl)); (first
    | exact QX.Move TYok
    | exact QX.Asg TYok
    | exact QX.Fld TYok
    | exact QX.Ld TYok
    | exact QX.Bin TYok
    | exact QX.Pick TYok
    | exact QX.Len TYok
    | exact QX.Idx TYok); exact rfl)
    | refine SX.Box TYok (h := ?_)
    | (apply S_isnil TYok; exact rfl; exact rfl; exact rfl; exact Ev.auto; intro bn hnil)
    | (apply RG.gT; exact rfl; exact rfl; (first | assumption | decide))
    | (apply RG.gF; exact rfl; exact rfl; (first | assumption | decide | (rw [ne_eq, Bool.not_eq_true]; assumption) | (rw [ne_eq, Bool.not_eq_false]; assumption)); exact rfl)
    | (refine W.condA (ht := fun hb => ?_) (hf := fun hb => ?_) <;> (try simp at hb) <;> (try (exfalso; omega))))
  · have e : pastF op = true := by simp [pastF]; omega
    rw [e]
    exact Fin.ret ResL.auto
  · have e : pastF op = false := by simp [pastF]; omega
    rw [e, Bool.false_or]
    apply W.loopP (σ := Nat) 32 [1] (fun k => k ≤ l.length ∧ (l.take k).any timedF = false) (fun k => [(3, vI k)]) (fun _ => [(1, ⟨24, 5, [[.int .i64 op, .int .i64 n, .int .i64 u, .str s, .sl (l.map encX)]]⟩)]) (fun k => l.length - k) (0)
    case hp => repeat (first | exact Pick.nil | apply Pick.cons rfl)
    case h0 =>
      refine ⟨by simp, ?_⟩
      exact Le.auto
    case round =>
      rintro k ⟨h1, h2⟩
      apply W.norm (by repeat (first | exact App.nil | apply App.cons))
      by_cases hk : k < l.length
      · repeat' (first
          | apply RG.nil
          | apply Lex.nil
          | apply Then.n
          | apply Then.r
          | apply Then.x
          | apply InBlock.n
          | apply InBlock.r
          | apply InBlock.hit
          | (apply InBlock.miss; exact rfl)
          | apply W.seq
          | apply W.region
          | apply W.block
          | apply W.skip
          | apply W.ret
          | apply W.exit
          | ((first | apply U_ | (apply Ug_; exact rfl; exact rfl) | (apply Ugq_; exact rfl; exact rfl)); (first
    | exact QX.Move TYok
    | exact QX.Asg TYok
    | exact QX.Fld TYok
    | exact QX.Ld TYok
    | exact QX.Bin TYok
    | exact QX.Pick TYok
    | exact QX.Len TYok
    | exact QX.Idx TYok
    | (apply Q_call (ih (nth l k) (nth_mem hk) (h _ (nth_mem hk))); exact EvL.auto; exact rfl)); exact rfl)
          | refine SX.Box TYok (h := ?_)
          | (apply S_isnil TYok; exact rfl; exact rfl; exact rfl; exact Ev.auto; intro bn hnil)
          | (apply RG.gT; exact rfl; exact rfl; (first | assumption | decide))
          | (apply RG.gF; exact rfl; exact rfl; (first | assumption | decide | (rw [ne_eq, Bool.not_eq_true]; assumption) | (rw [ne_eq, Bool.not_eq_false]; assumption)); exact rfl)
          | (refine W.condA (ht := fun hb => ?_) (hf := fun hb => ?_) <;> (try simp at hb) <;> (try (exfalso; omega))))
        · have e : l.any timedF = true := List.any_eq_true.2 ⟨_, nth_mem hk, hb⟩
          rw [e]
          exact Fin.ret ResL.auto
        · refine ⟨k + 1, ⟨by omega, ?_⟩, ?_, ?_⟩
          · rw [any_take hk, h2, hb]; rfl
          · exact Le.auto
          · (try simp only); omega
      · obtain rfl : k = l.length := by omega
        rw [List.take_length] at h2
        repeat' (first
          | apply RG.nil
          | apply Lex.nil
          | apply Then.n
          | apply Then.r
          | apply Then.x
          | apply InBlock.n
          | apply InBlock.r
          | apply InBlock.hit
          | (apply InBlock.miss; exact rfl)
          | apply W.seq
          | apply W.region
          | apply W.block
          | apply W.skip
          | apply W.ret
          | apply W.exit
          | ((first | apply U_ | (apply Ug_; exact rfl; exact rfl) | (apply Ugq_; exact rfl; exact rfl)); (first
    | exact QX.Move TYok
    | exact QX.Asg TYok
    | exact QX.Fld TYok
    | exact QX.Ld TYok
    | exact QX.Bin TYok
    | exact QX.Pick TYok
    | exact QX.Len TYok
    | exact QX.Idx TYok); exact rfl)
          | refine SX.Box TYok (h := ?_)
          | (apply S_isnil TYok; exact rfl; exact rfl; exact rfl; exact Ev.auto; intro bn hnil)
          | (apply RG.gT; exact rfl; exact rfl; (first | assumption | decide))
          | (apply RG.gF; exact rfl; exact rfl; (first | assumption | decide | (rw [ne_eq, Bool.not_eq_true]; assumption) | (rw [ne_eq, Bool.not_eq_false]; assumption)); exact rfl)
          | (refine W.condA (ht := fun hb => ?_) (hf := fun hb => ?_) <;> (try simp at hb) <;> (try (exfalso; omega))))
        rw [h2]
        exact Fin.ret ResL.auto
end Go.Proofs.Ytacilhkipekjlaa
