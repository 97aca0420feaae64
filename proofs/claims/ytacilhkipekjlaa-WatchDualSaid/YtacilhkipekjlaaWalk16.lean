/-
  The examples
-/
import Derived.Test.YtacilhkipekjlaaWalk15
set_option linter.unusedVariables false
set_option linter.unusedSimpArgs false
set_option maxHeartbeats 8000000
namespace Go.Proofs.Ytacilhkipekjlaa
open Lf Go
attribute [local irreducible] PureOp EffOp Ev RG W Then InBlock Lf.Fin nth App InitE Pick SubE SubF SubG EvL EvD EvP EvR ResL Lf.Lex SubR SubBR RA RAll EvC FinO FinM ResM FinB ResD

/-! ### the examples -/
def atomE : Exp := .mk 1 0 0 [97] []
def overE (op n : Int) (e : Exp) : Exp := .mk op n 0 [] [e]
theorem atomE_ok : ACalls Try.prog 20 [] (.pv (aE atomE)) := by
  rw [show aE atomE = .agg [.int .i64 1, .int .i64 0, .int .i64 0, .str [97], .sl []] from aE_mk ..]
  refine ACalls.of_M TYok (qs := [.agg [.int .i64 1, .int .i64 0, .int .i64 0, .str [97], .sl []]]) [.cell 0 24] 2 Try.func20 (by kernel_rfl) rfl rfl rfl fun G => ?_
  refine W.initA (hw := ?_)
  repeat' (first
    | apply RG.nil
    | apply Lex.nil
    | apply Then.n
    | apply Then.r
    | apply Then.x
    | apply InBlock.n
    | apply InBlock.r
    | apply InBlock.hit
    | (apply InBlock.miss; exact rfl)
    | apply W.seq
    | apply W.region
    | apply W.block
    | apply W.skip
    | apply W.ret
    | apply W.exit
    | ((first | apply U_); (first
    | exact QX.Build TYok); exact rfl)
    | refine SX.Alloc TYok (h := ?_)
    | refine SX.Store TYok (h := ?_)
    | (refine W.condA (ht := fun hb => ?_) (hf := fun hb => ?_) <;> (try simp at hb) <;> (try (exfalso; omega))))
  refine FinM.ret (ResM.cell rfl rfl rfl rfl ?_ ResM.nil)
  show LSub [_, _, _, _, _] [_, _, _, _, _]
  exact ⟨.refl _, .refl _, .refl _, .refl _, .nil, trivial⟩
theorem overE_ok (op n : Int) (e : Exp) : ACalls Try.prog 17 [cI op, cI n, aE e] (.pv (aE (overE op n e))) := by
  rw [show aE (overE op n e) = .agg [.int .i64 op, .int .i64 n, .int .i64 0, .str [], .sl [encX e]] from aE_mk ..]
  refine ACalls.of_M TYok (qs := [.agg [.int .i64 op, .int .i64 n, .int .i64 0, .str [], .sl [encX e]]]) [.cell 6 24] 12 Try.func17 (by kernel_rfl) rfl rfl rfl fun G => ?_
  refine W.initA (hw := ?_)
  repeat' (first
    | apply RG.nil
    | apply Lex.nil
    | apply Then.n
    | apply Then.r
    | apply Then.x
    | apply InBlock.n
    | apply InBlock.r
    | apply InBlock.hit
    | (apply InBlock.miss; exact rfl)
    | apply W.seq
    | apply W.region
    | apply W.block
    | apply W.skip
    | apply W.ret
    | apply W.exit
    | ((first | apply U_); (first
    | exact QX.Move TYok
    | exact QX.Ld TYok
    | exact QX.Build TYok); exact rfl)
    | refine SX.Alloc TYok (h := ?_)
    | refine SX.Store TYok (h := ?_)
    | refine SX.Lit TYok (h := ?_)
    | refine SX.Box TYok (h := ?_)
    | (refine W.condA (ht := fun hb => ?_) (hf := fun hb => ?_) <;> (try simp at hb) <;> (try (exfalso; omega))))
  refine RG.weaken (Le.freezeX (m := 6) rfl) ?_
  repeat' (first
    | apply RG.nil
    | apply Lex.nil
    | apply Then.n
    | apply Then.r
    | apply Then.x
    | apply InBlock.n
    | apply InBlock.r
    | apply InBlock.hit
    | (apply InBlock.miss; exact rfl)
    | apply W.seq
    | apply W.region
    | apply W.block
    | apply W.skip
    | apply W.ret
    | apply W.exit
    | ((first | apply U_); (first
    | exact QX.Move TYok
    | exact QX.Ld TYok
    | exact QX.Build TYok); exact rfl)
    | refine SX.Alloc TYok (h := ?_)
    | refine SX.Store TYok (h := ?_)
    | refine SX.Lit TYok (h := ?_)
    | refine SX.Box TYok (h := ?_)
    | (refine W.condA (ht := fun hb => ?_) (hf := fun hb => ?_) <;> (try simp at hb) <;> (try (exfalso; omega))))
  exact FinM.ret ResM.auto
theorem okAtom : OkE atomE := .mk (by decide) (by decide) (fun x hx => by cases hx)
theorem okOver {op n : Int} {e : Exp} (h : OkE e) : OkE (overE op n e) := .mk (by decide) (by simp) (fun x hx => by rw [List.mem_singleton.1 hx]; exact h)
theorem says_ok (e : Exp) (want : List Int) (he : OkE e) (hc : (listF e).length ≤ 1000000) (hr : runF e [[0, 0, 1, 0, 0]] 5 = (want, 0)) (hw : want.length ≤ 1000000) : ACalls Try.prog 19 [aE e, slI want] (.pv (cB true)) := by
  have h1 := run_ok e [[0, 0, 1, 0, 0]] 5 he hc (by simp) (by simp)
  rw [hr] at h1
  have h2 := ints_ok want want hw hw
  rw [decide_eq_true rfl] at h2
  refine ACalls.of_W (qs := [cB true]) [4] 21 Try.func19 (by kernel_rfl) rfl rfl rfl fun G => ?_
  refine W.initA (hw := ?_)
  repeat' (first
    | apply RG.nil
    | apply Lex.nil
    | apply Then.n
    | apply Then.r
    | apply Then.x
    | apply InBlock.n
    | apply InBlock.r
    | apply InBlock.hit
    | (apply InBlock.miss; exact rfl)
    | apply W.seq
    | apply W.region
    | apply W.block
    | apply W.skip
    | apply W.ret
    | apply W.exit
    | ((first | apply U_ | (apply Ug_; exact rfl; exact rfl) | (apply Ugq_; exact rfl; exact rfl)); (first
    | exact QX.Move TYok
    | exact QX.Asg TYok
    | exact QX.Ld TYok
    | exact QX.Bin TYok
    | exact QX.Pick TYok
    | exact QX.Ext TYok); exact rfl)
    | refine SX.Lit TYok (h := ?_)
    | refine SX.Box TYok (h := ?_)
    | (apply S_isnil TYok; exact rfl; exact rfl; exact rfl; exact Ev.auto; intro bn hnil)
    | (apply RG.gT; exact rfl; exact rfl; (first | assumption | decide))
    | (apply RG.gF; exact rfl; exact rfl; (first | assumption | decide | (rw [ne_eq, Bool.not_eq_true]; assumption) | (rw [ne_eq, Bool.not_eq_false]; assumption)); exact rfl)
    | (refine W.condA (ht := fun hb => ?_) (hf := fun hb => ?_) <;> (try simp at hb) <;> (try (exfalso; omega))))
  refine RG.weaken Le.freeze ?_
  repeat' (first
    | apply RG.nil
    | apply Lex.nil
    | apply Then.n
    | apply Then.r
    | apply Then.x
    | apply InBlock.n
    | apply InBlock.r
    | apply InBlock.hit
    | (apply InBlock.miss; exact rfl)
    | apply W.seq
    | apply W.region
    | apply W.block
    | apply W.skip
    | apply W.ret
    | apply W.exit
    | ((first | apply U_ | (apply Ug_; exact rfl; exact rfl) | (apply Ugq_; exact rfl; exact rfl)); (first
    | exact QX.Move TYok
    | exact QX.Asg TYok
    | exact QX.Ld TYok
    | exact QX.Bin TYok
    | exact QX.Pick TYok
    | exact QX.Ext TYok); exact rfl)
    | refine SX.Lit TYok (h := ?_)
    | refine SX.Box TYok (h := ?_)
    | (apply S_isnil TYok; exact rfl; exact rfl; exact rfl; exact Ev.auto; intro bn hnil)
    | (apply RG.gT; exact rfl; exact rfl; (first | assumption | decide))
    | (apply RG.gF; exact rfl; exact rfl; (first | assumption | decide | (rw [ne_eq, Bool.not_eq_true]; assumption) | (rw [ne_eq, Bool.not_eq_false]; assumption)); exact rfl)
    | (refine W.condA (ht := fun hb => ?_) (hf := fun hb => ?_) <;> (try simp at hb) <;> (try (exfalso; omega))))
  refine RG.weaken Le.freeze ?_
  repeat' (first
    | apply RG.nil
    | apply Lex.nil
    | apply Then.n
    | apply Then.r
    | apply Then.x
    | apply InBlock.n
    | apply InBlock.r
    | apply InBlock.hit
    | (apply InBlock.miss; exact rfl)
    | apply W.seq
    | apply W.region
    | apply W.block
    | apply W.skip
    | apply W.ret
    | apply W.exit
    | ((first | apply U_ | (apply Ug_; exact rfl; exact rfl) | (apply Ugq_; exact rfl; exact rfl)); (first
    | exact QX.Move TYok
    | exact QX.Asg TYok
    | exact QX.Ld TYok
    | exact QX.Bin TYok
    | exact QX.Pick TYok
    | exact QX.Ext TYok
    | (apply Q_calld (h1); exact EvD.auto)
    | (apply Q_calld (h2); exact EvD.auto)); exact rfl)
    | refine SX.Lit TYok (h := ?_)
    | refine SX.Box TYok (h := ?_)
    | (apply S_isnil TYok; exact rfl; exact rfl; exact rfl; exact Ev.auto; intro bn hnil)
    | (apply RG.gT; exact rfl; exact rfl; (first | assumption | decide))
    | (apply RG.gF; exact rfl; exact rfl; (first | assumption | decide | (rw [ne_eq, Bool.not_eq_true]; assumption) | (rw [ne_eq, Bool.not_eq_false]; assumption)); exact rfl)
    | (refine W.condA (ht := fun hb => ?_) (hf := fun hb => ?_) <;> (try simp at hb) <;> (try (exfalso; omega))))
  exact Fin.ret ResL.auto
theorem ex1 : runF (overE 16 2 atomE) [[0, 0, 1, 0, 0]] 5 = ([0, 0, 1, 1, 0], 0) := by decide +kernel
theorem ex2 : runF (overE 17 2 (overE 12 0 atomE)) [[0, 0, 1, 0, 0]] 5 = ([1, 1, 0, 0, 1], 0) := by decide +kernel
theorem ex3 : runF (overE 18 2 atomE) [[0, 0, 1, 0, 0]] 5 = ([0, 1, 1, 0, 2], 0) := by decide +kernel
theorem ex4 : runF (overE 12 0 (overE 18 3 atomE)) [[0, 0, 1, 0, 0]] 5 = ([0, 0, 0, 2, 2], 0) := by decide +kernel
theorem ex5 : atomsF (overE 18 3 atomE) = [atomE] := by
  have : rightF 12 (overE 18 3 atomE) = true := by decide +kernel
  rw [atomsF, if_pos this]; rfl
theorem small_ok : ACalls Try.prog 7 [] (.pv (cB true)) := by
  have a := atomE_ok
  have o1 := overE_ok 16 2 atomE
  have o2 := overE_ok 12 0 atomE
  have o3 := overE_ok 17 2 (overE 12 0 atomE)
  have o4 := overE_ok 18 2 atomE
  have o5 := overE_ok 18 3 atomE
  have o6 := overE_ok 12 0 (overE 18 3 atomE)
  have s1 := says_ok _ _ (okOver okAtom) (by decide) ex1 (by decide)
  have s2 := says_ok _ _ (okOver (okOver okAtom)) (by decide) ex2 (by decide)
  have s3 := says_ok _ _ (okOver okAtom) (by decide) ex3 (by decide)
  have s4 := says_ok _ _ (okOver (okOver okAtom)) (by decide) ex4 (by decide)
  have s5 := atomsE_ok (overE 18 3 atomE) (okOver okAtom) (by decide)
  rw [ex5] at s5
  refine ACalls.of_W (qs := [cB true]) [0] 36 Try.func7 (by kernel_rfl) rfl rfl rfl fun G => ?_
  refine W.initA (hw := ?_)
  repeat' (first
    | apply RG.nil
    | apply Lex.nil
    | apply Then.n
    | apply Then.r
    | apply Then.x
    | apply InBlock.n
    | apply InBlock.r
    | apply InBlock.hit
    | (apply InBlock.miss; exact rfl)
    | apply W.seq
    | apply W.region
    | apply W.block
    | apply W.skip
    | apply W.ret
    | apply W.exit
    | ((first | apply U_ | (apply Ug_; exact rfl; exact rfl) | (apply Ugq_; exact rfl; exact rfl)); (first
    | exact QX.Move TYok
    | exact QX.Asg TYok
    | exact QX.Bin TYok
    | exact QX.Pick TYok
    | exact QX.Len TYok
    | (apply Q_calld (a); exact EvD.auto)
    | (apply Q_calld (o1); exact EvD.auto)
    | (apply Q_calld (o2); exact EvD.auto)
    | (apply Q_calld (o3); exact EvD.auto)
    | (apply Q_calld (o4); exact EvD.auto)
    | (apply Q_calld (o5); exact EvD.auto)
    | (apply Q_calld (o6); exact EvD.auto)
    | (apply Q_call (s1); exact EvL.auto; exact rfl)
    | (apply Q_call (s2); exact EvL.auto; exact rfl)
    | (apply Q_call (s3); exact EvL.auto; exact rfl)
    | (apply Q_call (s4); exact EvL.auto; exact rfl)
    | (apply Q_calld (s5); exact EvD.auto)); exact rfl)
    | refine SX.Lit TYok (h := ?_)
    | (apply S_isnil TYok; exact rfl; exact rfl; exact rfl; exact Ev.auto; intro bn hnil)
    | (apply RG.gT; exact rfl; exact rfl; (first | assumption | decide))
    | (apply RG.gF; exact rfl; exact rfl; (first | assumption | decide | (rw [ne_eq, Bool.not_eq_true]; assumption) | (rw [ne_eq, Bool.not_eq_false]; assumption)); exact rfl)
    | (refine W.condA (ht := fun hb => ?_) (hf := fun hb => ?_) <;> (try simp at hb) <;> (try (exfalso; omega))))
  exact Fin.ret ResL.auto
end Go.Proofs.Ytacilhkipekjlaa
