/-
  Big integers: the law of division.
-/
import Derived.Test.YtldgkgfkdipdeaaDoorWalk12
set_option linter.unusedVariables false
set_option linter.unusedSimpArgs false
set_option maxHeartbeats 8000000
namespace Go.Proofs.YtldgkgfkdipdeaaDoor
open Lf Go
attribute [local irreducible] PureOp EffOp Ev RG W Then InBlock Lf.Fin nth App InitE Pick SubE SubF SubG EvL EvD EvP EvR ResL Lf.Lex SubR SubBR RA RAll EvC FinO FinM ResM FinB ResD FinS val pw digs trimL

theorem divides_ok (s s' : Int) (l l' : List Int) (hl : l.length ≤ 9223372036854775807) (hl' : l'.length ≤ 9223372036854775807) : GCalls Tryd.prog 2 powC 6 [aB s l, aB s' l'] (.pv (cB true)) := by
  have h0 := small_ok
  have f1 := fewB_ok s l 40 hl
  have f2 := fewB_ok s' l' 40 hl'
  have r1 := rightL_ok s l hl
  have r2 := rightL_ok s' l' hl'
  by_cases hw : (l.length ≤ 40 ∧ l'.length ≤ 40) ∧ rightB s l = true ∧ rightB s' l' = true
  case neg =>
    generalize rightB s l = b1 at r1 hw
    generalize rightB s' l' = b2 at r2 hw
    have hw' : (((l.length ≤ 40) ∧ l'.length ≤ 40) ∧ b1 = true) ∧ b2 = true → False := fun ⟨⟨q, a⟩, b⟩ => hw ⟨q, a, b⟩
    have hw2 : ((((l.length : Int) ≤ 40) ∧ (l'.length : Int) ≤ 40) ∧ b1 = true) ∧ b2 = true → False := fun ⟨⟨⟨p, q⟩, a⟩, b⟩ => hw ⟨⟨by omega, by omega⟩, a, b⟩
    refine GCalls.of_M TYok (qs := [cB true]) [.tmp 4] 124 Tryd.func6 (by kernel_rfl) rfl rfl rfl fun G hG => ?_
    refine W.initA (hw := ?_)
    repeat' (first
      | (exfalso; first | exact hw' (by assumption) | exact hw2 (by assumption))
      | apply RG.nil
      | apply Lex.nil
      | apply Then.n
      | apply Then.r
      | apply Then.x
      | apply InBlock.n
      | apply InBlock.r
      | apply InBlock.hit
      | (apply InBlock.miss; exact rfl)
      | apply W.seq
      | apply W.region
      | apply W.block
      | apply W.skip
      | apply W.ret
      | apply W.exit
      | ((first | apply U_ | (apply Ug_; exact rfl; exact rfl) | (apply Ugq_; exact rfl; exact rfl)); (first
    | exact QX.Move TYok
    | exact QX.Asg TYok
    | exact QX.Fld TYok
    | exact QX.Ld TYok
    | exact QX.Bin TYok
    | exact QX.Pick TYok
    | exact QX.Un TYok
    | exact QX.Ext TYok
    | exact QX.Build TYok
    | (apply Q_callGd hG (h0); exact EvD.auto)
    | (apply Q_callG hG (h0); exact EvL.auto; exact rfl)
    | (apply Q_calld (f1); exact EvD.auto)
    | (apply Q_calld (f2); exact EvD.auto)
    | (apply Q_calld (r1); exact EvD.auto)
    | (apply Q_calld (r2); exact EvD.auto)); exact rfl)
      | refine SX.Alloc TYok (h := ?_)
      | refine SX.Store TYok (h := ?_)
      | refine SX.Box TYok (h := ?_)
      | (apply S_isnil TYok; exact rfl; exact rfl; exact rfl; exact Ev.auto; intro bn hnil)
      | (apply RG.gT; exact rfl; exact rfl; (first | assumption | decide))
      | (apply RG.gF; exact rfl; exact rfl; (first | assumption | decide | (rw [ne_eq, Bool.not_eq_true]; assumption) | (rw [ne_eq, Bool.not_eq_false]; assumption)); exact rfl)
      | (refine W.condA (ht := fun hb => ?_) (hf := fun hb => ?_) <;> (try simp at hb) <;> (try (exfalso; omega))))
    all_goals exact FinM.ret ResM.auto
  obtain ⟨⟨w1, w2⟩, q1, q2⟩ := hw
  rw [q1] at r1
  rw [q2] at r2
  obtain ⟨x, ox, rfl, rfl⟩ := right_num q1
  obtain ⟨y, oy, rfl, rfl⟩ := right_num q2
  have cy := sgn_cases y
  by_cases hy : y = 0
  · subst hy
    have d1 := divZ_zero x ox
    have e1 := sameZ_ok 0 0 okZ.zero okZ.zero
    rw [decide_eq_true rfl] at e1
    have e0 : sgn 0 = 0 := rfl
    refine GCalls.of_M TYok (qs := [cB true]) [.tmp 4] 124 Tryd.func6 (by kernel_rfl) rfl rfl rfl fun G hG => ?_
    refine W.initA (hw := ?_)
    repeat' (first
      | apply RG.nil
      | apply Lex.nil
      | apply Then.n
      | apply Then.r
      | apply Then.x
      | apply InBlock.n
      | apply InBlock.r
      | apply InBlock.hit
      | (apply InBlock.miss; exact rfl)
      | apply W.seq
      | apply W.region
      | apply W.block
      | apply W.skip
      | apply W.ret
      | apply W.exit
      | ((first | apply U_ | (apply Ug_; exact rfl; exact rfl) | (apply Ugq_; exact rfl; exact rfl)); (first
    | exact QX.Move TYok
    | exact QX.Asg TYok
    | exact QX.Fld TYok
    | exact QX.Ld TYok
    | exact QX.Bin TYok
    | exact QX.Pick TYok
    | exact QX.Un TYok
    | exact QX.Ext TYok
    | exact QX.Build TYok
    | (apply Q_callGd hG (h0); exact EvD.auto)
    | (apply Q_callG hG (h0); exact EvL.auto; exact rfl)
    | (apply Q_calld (f1); exact EvD.auto)
    | (apply Q_calld (f2); exact EvD.auto)
    | (apply Q_calld (r1); exact EvD.auto)
    | (apply Q_calld (r2); exact EvD.auto)
    | (apply Q_calld (d1); exact EvD.auto)
    | (apply Q_calld (e1); exact EvD.cons Ev.auto PSub.rfl' (EvD.cons Ev.auto zeroSubZ EvD.nil))); exact rfl)
      | refine SX.Alloc TYok (h := ?_)
      | refine SX.Store TYok (h := ?_)
      | refine SX.Box TYok (h := ?_)
      | (apply S_isnil TYok; exact rfl; exact rfl; exact rfl; exact Ev.auto; intro bn hnil)
      | (apply RG.gT; exact rfl; exact rfl; (first | assumption | decide))
      | (apply RG.gF; exact rfl; exact rfl; (first | assumption | decide | (rw [ne_eq, Bool.not_eq_true]; assumption) | (rw [ne_eq, Bool.not_eq_false]; assumption)); exact rfl)
      | (refine W.condA (ht := fun hb => ?_) (hf := fun hb => ?_) <;> (try simp at hb) <;> (try (exfalso; omega))))
    all_goals first
      | exact FinM.ret ResM.auto
      | (exfalso; omega)
  have d1 := divZ_ok x y ox oy hy
  have hqr := quo_rem x y
  have hrr := rem_rng (x := x) hy
  have oq := okZ_quo ox hy
  have or' := okZ_rem (x := x) oy hy
  have hlt := pw_lt (show 40 < 60 by omega)
  have e41 : pw 41 = 1048576 * pw 40 := by rw [pw_succ]
  have h41 := pw_mono (show 41 ≤ 60 by omega)
  have b1 := lt40 w1
  have b2 := lt40 w2
  generalize hq : quoZ x y = q at *
  generalize hr : remZ x y = r at *
  have hm : okZ (q * y) := okZ.of (by
    rw [Int.mul_comm]
    by_cases hp : 0 < y
    · have := hrr.1 hp; omega
    · have := hrr.2 (by omega); omega)
  have m1 := mulZ_ok q y oq oy
  rw [(full_yes hm).1, (full_yes hm).2] at m1
  have a1 := addZ_ok (q * y) r hm or'
  have hx2 : q * y + r = x := by rw [Int.mul_comm]; omega
  rw [hx2, (full_yes ox).1, (full_yes ox).2] at a1
  have g1 := right_yes oq
  have g2 := right_yes or'
  have e1 := sameZ_ok x x ox ox
  rw [decide_eq_true rfl] at e1
  have k1 := cmpZ_ok r y or' oy
  have cr := sgn_cases r
  have hcmp : (0 < y → cmpI r y = -1) ∧ (y < 0 → cmpI r y = 1) := by
    unfold cmpI
    exact ⟨fun h => if_pos (by have := hrr.1 h; omega), fun h => by rw [if_neg (by have := hrr.2 h; omega), if_pos (by have := hrr.2 h; omega)]⟩
  have hsg : sgn r = 0 ∨ sgn r = sgn y := by
    by_cases hp : 0 < y
    · have := hrr.1 hp; omega
    · have := hrr.2 (by omega); omega
  generalize cmpI r y = cm at *
  refine GCalls.of_M TYok (qs := [cB true]) [.tmp 4] 124 Tryd.func6 (by kernel_rfl) rfl rfl rfl fun G hG => ?_
  refine W.initA (hw := ?_)
  repeat' (first
    | apply RG.nil
    | apply Lex.nil
    | apply Then.n
    | apply Then.r
    | apply Then.x
    | apply InBlock.n
    | apply InBlock.r
    | apply InBlock.hit
    | (apply InBlock.miss; exact rfl)
    | apply W.seq
    | apply W.region
    | apply W.block
    | apply W.skip
    | apply W.ret
    | apply W.exit
    | ((first | apply U_ | (apply Ug_; exact rfl; exact rfl) | (apply Ugq_; exact rfl; exact rfl)); (first
    | exact QX.Move TYok
    | exact QX.Asg TYok
    | exact QX.Fld TYok
    | exact QX.Ld TYok
    | exact QX.Bin TYok
    | exact QX.Pick TYok
    | exact QX.Un TYok
    | exact QX.Ext TYok
    | exact QX.Build TYok
    | (apply Q_callGd hG (h0); exact EvD.auto)
    | (apply Q_callG hG (h0); exact EvL.auto; exact rfl)
    | (apply Q_calld (f1); exact EvD.auto)
    | (apply Q_calld (f2); exact EvD.auto)
    | (apply Q_calld (r1); exact EvD.auto)
    | (apply Q_calld (r2); exact EvD.auto)
    | (apply Q_calld (d1); exact EvD.auto)
    | (apply Q_calld (m1); exact EvD.auto)
    | (apply Q_calld (a1); exact EvD.auto)
    | (apply Q_calld (g1); exact EvD.auto)
    | (apply Q_calld (g2); exact EvD.auto)
    | (apply Q_calld (e1); exact EvD.auto)
    | (apply Q_calld (k1); exact EvD.auto)); exact rfl)
    | refine SX.Alloc TYok (h := ?_)
    | refine SX.Store TYok (h := ?_)
    | refine SX.Box TYok (h := ?_)
    | (apply S_isnil TYok; exact rfl; exact rfl; exact rfl; exact Ev.auto; intro bn hnil)
    | (apply RG.gT; exact rfl; exact rfl; (first | assumption | decide))
    | (apply RG.gF; exact rfl; exact rfl; (first | assumption | decide | (rw [ne_eq, Bool.not_eq_true]; assumption) | (rw [ne_eq, Bool.not_eq_false]; assumption)); exact rfl)
    | (refine W.condA (ht := fun hb => ?_) (hf := fun hb => ?_) <;> (try simp at hb) <;> (try (exfalso; omega))))
  all_goals exact FinM.ret (ResM.tmp rfl rfl (PSub.of_eq (congrArg (fun b => PV.one (Cell.bool b)) (by rw [Bool.and_eq_true, Bool.and_eq_true, Bool.or_eq_true, decide_eq_true_iff, decide_eq_true_iff, decide_eq_true_iff]; exact ⟨⟨rfl, by omega⟩, by omega⟩))) ResM.nil)
end Go.Proofs.YtldgkgfkdipdeaaDoor
