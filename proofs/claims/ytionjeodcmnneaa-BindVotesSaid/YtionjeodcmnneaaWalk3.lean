/-
  What right expressions ask of single numbers.
-/
import Derived.Test.YtionjeodcmnneaaWalk2
set_option linter.unusedVariables false
set_option linter.unusedSimpArgs false
set_option maxHeartbeats 8000000
namespace Go.Proofs.Ytionjeodcmnneaa
open Lf Go
attribute [local irreducible] PureOp EffOp Ev RG W Then InBlock Lf.Fin nth App InitE Pick SubE SubF SubG EvL EvD EvP EvR ResL Lf.Lex SubR SubBR RA RAll EvC FinO FinM ResM FinB ResD

def inF (a b n : Int) : Bool := decide (a ≤ n) && decide (n ≤ b)
theorem in1_ok (a b n : Int) : ACalls Try.prog 68 [cI n, .one (.ptr [.int .i64 a]), .one (.ptr [.int .i64 b])] (.pv (cB (!inF a b n))) := by
  refine ACalls.of_W (qs := [cB (!inF a b n)]) [4] 13 Try.func68 (by kernel_rfl) rfl rfl rfl fun G => ?_
  refine W.initA (hw := ?_)
  repeat' (first
    | apply RG.nil
    | apply Lex.nil
    | apply Then.n
    | apply Then.r
    | apply Then.x
    | apply InBlock.n
    | apply InBlock.r
    | apply InBlock.hit
    | (apply InBlock.miss; exact rfl)
    | apply W.seq
    | apply W.region
    | apply W.block
    | apply W.skip
    | apply W.ret
    | apply W.exit
    | ((first | apply U_ | (apply Ug_; exact rfl; exact rfl) | (apply Ugq_; exact rfl; exact rfl)); (first
    | exact QX.Move TYok
    | exact QX.Asg TYok
    | exact QX.Ld TYok
    | exact QX.Bin TYok
    | exact QX.Pick TYok); exact rfl)
    | (apply RG.gT; exact rfl; exact rfl; (first | assumption | decide))
    | (apply RG.gF; exact rfl; exact rfl; (first | assumption | decide | (rw [ne_eq, Bool.not_eq_true]; assumption) | (rw [ne_eq, Bool.not_eq_false]; assumption)); exact rfl)
    | (refine W.condA (ht := fun hb => ?_) (hf := fun hb => ?_) <;> (try simp at hb) <;> (try (exfalso; omega))))
  have e : (!inF a b n) = (decide (n < a) || decide (n > b)) := by
    rw [Bool.eq_iff_iff]; simp [inF] <;> omega
  rw [e]
  exact Fin.ret ResL.auto
theorem in_ok (a b : Int) (l : List Int) (hl : l.length ≤ 9223372036854775807) : ACalls Try.prog 52 [cI a, cI b, slI l] (.pv (cB (l.all (inF a b)))) := by
  refine ACalls.of_W (qs := [cB (l.all (inF a b))]) [6] 11 Try.func52 (by kernel_rfl) rfl rfl rfl fun G => ?_
  refine W.initA (hw := ?_)
  repeat' (first
    | apply RG.nil
    | apply Lex.nil
    | apply Then.n
    | apply Then.r
    | apply Then.x
    | apply InBlock.n
    | apply InBlock.r
    | apply InBlock.hit
    | (apply InBlock.miss; exact rfl)
    | apply W.seq
    | apply W.region
    | apply W.block
    | apply W.skip
    | apply W.ret
    | apply W.exit
    | ((first | apply U_); (first
    | exact QX.Move TYok
    | exact QX.Asg TYok
    | exact QX.Un TYok
    | exact QX.Fun TYok
    | (apply Q_calld (containsI_ok l 68 [.ptr [.int .i64 a], .ptr [.int .i64 b]] (fun n => !inF a b n) hl (fun n _ => in1_ok a b n)); exact EvD.auto)); exact rfl)
    | refine SX.Box TYok (h := ?_)
    | (refine S_makeFuncF (cs := [.ptr [.int .i64 a], .ptr [.int .i64 b]]) (EvC.cons Ev.auto (EvC.cons Ev.auto EvC.nil)) ?_ ?_; exact rfl)
    | (refine W.condA (ht := fun hb => ?_) (hf := fun hb => ?_) <;> (try simp at hb) <;> (try (exfalso; omega))))
  have e : l.all (inF a b) = !(l.any fun n => !inF a b n) := by
    rw [Bool.eq_iff_iff]; simp
  rw [e]
  exact Fin.ret ResL.auto
/-- the empty string, as the program writes it -/
abbrev E0 : Str := (ByteArray.mk #[]).data.toList
def opsF (op : Int) : Int := if op = 0 ∨ op = 1 ∨ op = 2 ∨ op = 3 then 0 else if op = 12 ∨ op = 16 ∨ op = 17 ∨ op = 18 then 1 else if op = 15 then 3 else if op < 0 ∨ op ≥ 19 then -1 else 2
theorem operands_ok (op : Int) : ACalls Try.prog 84 [cI op] (.pv (cI (opsF op))) := by
  refine ACalls.of_W (qs := [cI (opsF op)]) [2] 22 Try.func84 (by kernel_rfl) rfl rfl rfl fun G => ?_
  refine W.initA (hw := ?_)
  repeat' (first
    | apply RG.nil
    | apply Lex.nil
    | apply Then.n
    | apply Then.r
    | apply Then.x
    | apply InBlock.n
    | apply InBlock.r
    | apply InBlock.hit
    | (apply InBlock.miss; exact rfl)
    | apply W.seq
    | apply W.region
    | apply W.block
    | apply W.skip
    | apply W.ret
    | apply W.exit
    | ((first | apply U_ | (apply Ug_; exact rfl; exact rfl) | (apply Ugq_; exact rfl; exact rfl)); (first
    | exact QX.Move TYok
    | exact QX.Asg TYok
    | exact QX.Bin TYok
    | exact QX.Pick TYok); exact rfl)
    | (apply S_isnil TYok; exact rfl; exact rfl; exact rfl; exact Ev.auto; intro bn hnil)
    | (apply RG.gT; exact rfl; exact rfl; (first | assumption | decide))
    | (apply RG.gF; exact rfl; exact rfl; (first | assumption | decide | (rw [ne_eq, Bool.not_eq_true]; assumption) | (rw [ne_eq, Bool.not_eq_false]; assumption)); exact rfl)
    | (refine W.condA (ht := fun hb => ?_) (hf := fun hb => ?_) <;> (try simp at hb) <;> (try (exfalso; omega))))
  all_goals first
    | (rw [opsF, if_pos (by omega)]; exact Fin.ret ResL.auto)
    | (rw [opsF, if_neg (by omega), if_pos (by omega)]; exact Fin.ret ResL.auto)
    | (rw [opsF, if_neg (by omega), if_neg (by omega), if_pos (by omega)]; exact Fin.ret ResL.auto)
    | (rw [opsF, if_neg (by omega), if_neg (by omega), if_neg (by omega), if_pos (by omega)]; exact Fin.ret ResL.auto)
    | (rw [opsF, if_neg (by omega), if_neg (by omega), if_neg (by omega), if_neg (by omega)]; exact Fin.ret ResL.auto)
def rightF : Nat → Exp → Bool
  | 0, _ => false
  | d + 1, .mk op n u s l => decide ((l.length : Int) = opsF op) && (if op = 0 then decide (s = []) && inF 0 4 u && inF 0 (if u = 4 then 1 else 1000000000000000) n else if op = 1 ∨ op = 2 ∨ op = 3 then decide (n = 0) && decide (u = 0) && nameF s
    else if op = 16 ∨ op = 17 ∨ op = 18 then decide (u = 0) && decide (s = []) && inF 1 1000 n && l.all (rightF d) else decide (n = 0) && decide (u = 0) && decide (s = []) && l.all (rightF d))
end Go.Proofs.Ytionjeodcmnneaa
