/-
  The atoms.
-/
import Derived.Test.YtacilhkipekjlaaWalk4
set_option linter.unusedVariables false
set_option linter.unusedSimpArgs false
set_option maxHeartbeats 8000000
namespace Go.Proofs.Ytacilhkipekjlaa
open Lf Go
attribute [local irreducible] PureOp EffOp Ev RG W Then InBlock Lf.Fin nth App InitE Pick SubE SubF SubG EvL EvD EvP EvR ResL Lf.Lex SubR SubBR RA RAll EvC FinO FinM ResM FinB ResD

/-! ### the atoms -/
mutual
def listF : Exp → List Exp
  | .mk op n u s l => if framedF op then listFs l else [.mk op n u s l]
def listFs : List Exp → List Exp
  | [] => []
  | e :: r => listF e ++ listFs r
end
theorem listFs_append : ∀ l m, listFs (l ++ m) = listFs l ++ listFs m
  | [], m => by simp [listFs]
  | e :: r, m => by simp [listFs, listFs_append r m]
theorem listFs_take {l : List Exp} {k : Nat} (h : k < l.length) : listFs (l.take (k + 1)) = listFs (l.take k) ++ listF (nth l k) := by
  rw [take_nth h, listFs_append]; simp [listFs]
theorem listFs_le {l : List Exp} (k : Nat) : (listFs (l.take k)).length ≤ (listFs l).length := by
  have : listFs l = listFs (l.take k) ++ listFs (l.drop k) := by rw [← listFs_append, List.take_append_drop]
  rw [this]; simp
theorem listF_le {l : List Exp} {k : Nat} (h : k < l.length) : (listF (nth l k)).length ≤ (listFs l).length := by
  have h1 := listFs_le (l := l) (k + 1)
  rw [listFs_take h] at h1
  simp at h1; omega
theorem list_ok (e : Exp) : OkE e → (listF e).length ≤ 1000000 → ACalls Try.prog 31 [aE e] (.pv (slE (listF e))) := by
  refine Exp.ind (P := fun e => OkE e → (listF e).length ≤ 1000000 → ACalls Try.prog 31 [aE e] (.pv (slE (listF e)))) (fun op n u s l ih he hN => ?_) e
  cases he with
  | mk hs hl h =>
  rw [listF] at hN ⊢
  have hm := aE_mk op n u s l
  rw [hm]
  cases hf : framedF op with
  | false =>
    have hone : slE [Exp.mk op n u s l] = .one (.sl [[.int .i64 op, .int .i64 n, .int .i64 u, .str s, .sl (l.map encX)]]) := by
      injection hm with hm
      show PV.one (Cell.sl [encX (.mk op n u s l)]) = _
      rw [hm]
    simp only [Bool.false_eq_true, if_false]
    rw [hone]
    refine ACalls.of_W (qs := [.one (.sl [[.int .i64 op, .int .i64 n, .int .i64 u, .str s, .sl (l.map encX)]])]) [2] 29 Try.func31 (by kernel_rfl) rfl rfl rfl fun G => ?_
    refine W.initA (hw := ?_)
    repeat' (first
      | apply RG.nil
      | apply Lex.nil
      | apply Then.n
      | apply Then.r
      | apply Then.x
      | apply InBlock.n
      | apply InBlock.r
      | apply InBlock.hit
      | (apply InBlock.miss; exact rfl)
      | apply W.seq
      | apply W.region
      | apply W.block
      | apply W.skip
      | apply W.ret
      | apply W.exit
      | ((first | apply U_); (first
    | exact QX.Move TYok
    | exact QX.Asg TYok
    | exact QX.Fld TYok
    | exact QX.Ld TYok
    | exact QX.Bin TYok
    | exact QX.Un TYok
    | exact QX.Len TYok
    | exact QX.Idx TYok
    | (apply Q_call (rframed_ok op); exact EvL.auto; exact rfl)); exact rfl)
      | refine SX.Lit TYok (h := ?_)
      | refine SX.App TYok (h := ?_)
      | refine SX.Box TYok (h := ?_)
      | (refine W.condA (ht := fun hb => ?_) (hf := fun hb => ?_) <;> (try simp at hb) <;> (try (exfalso; omega))))
    · exact Fin.ret ResL.auto
    · rw [hf] at hb; cases hb
  | true =>
    rw [hf] at hN
    simp only [if_true] at hN ⊢
    refine ACalls.of_W (qs := [slE (listFs l)]) [2] 29 Try.func31 (by kernel_rfl) rfl rfl rfl fun G => ?_
    refine W.initA (hw := ?_)
    repeat' (first
      | apply RG.nil
      | apply Lex.nil
      | apply Then.n
      | apply Then.r
      | apply Then.x
      | apply InBlock.n
      | apply InBlock.r
      | apply InBlock.hit
      | (apply InBlock.miss; exact rfl)
      | apply W.seq
      | apply W.region
      | apply W.block
      | apply W.skip
      | apply W.ret
      | apply W.exit
      | ((first | apply U_); (first
    | exact QX.Move TYok
    | exact QX.Asg TYok
    | exact QX.Fld TYok
    | exact QX.Ld TYok
    | exact QX.Bin TYok
    | exact QX.Un TYok
    | exact QX.Len TYok
    | exact QX.Idx TYok
    | (apply Q_call (rframed_ok op); exact EvL.auto; exact rfl)); exact rfl)
      | refine SX.Lit TYok (h := ?_)
      | refine SX.App TYok (h := ?_)
      | refine SX.Box TYok (h := ?_)
      | (refine W.condA (ht := fun hb => ?_) (hf := fun hb => ?_) <;> (try simp at hb) <;> (try (exfalso; omega))))
    · rw [hf] at hb; cases hb
    · refine W.weaken (Le.nilOwn (t := 3) (n := 27) (E := 24) (sz := 5) rfl) ?_
      apply W.loopP (σ := Nat) 29 [1] (fun k => k ≤ l.length) (fun k => [(3, (True, .slc 27)), (4, vI k)]) (fun k => [(1, ⟨24, 5, [[.int .i64 op, .int .i64 n, .int .i64 u, .str s, .sl (l.map encX)]]⟩), (27, ⟨24, 5, (listFs (l.take k)).map encX⟩)]) (fun k => l.length - k) (0)
      case hp => repeat (first | exact Pick.nil | apply Pick.cons rfl)
      case h0 =>
        refine ⟨by simp, ?_⟩
        simp only [List.take_zero, listFs, List.map_nil]
        exact Le.auto
      case round =>
        rintro k h1
        apply W.norm (by repeat (first | exact App.nil | apply App.cons))
        by_cases hk : k < l.length
        · have g1 := listFs_le (l := l) (k + 1)
          have g2 := listF_le hk
          rw [listFs_take hk, List.length_append] at g1
          repeat' (first
            | apply RG.nil
            | apply Lex.nil
            | apply Then.n
            | apply Then.r
            | apply Then.x
            | apply InBlock.n
            | apply InBlock.r
            | apply InBlock.hit
            | (apply InBlock.miss; exact rfl)
            | apply W.seq
            | apply W.region
            | apply W.block
            | apply W.skip
            | apply W.ret
            | apply W.exit
            | ((first | apply U_); (first
    | exact QX.Move TYok
    | exact QX.Asg TYok
    | exact QX.Fld TYok
    | exact QX.Ld TYok
    | exact QX.Bin TYok
    | exact QX.Un TYok
    | exact QX.Len TYok
    | exact QX.Idx TYok
    | (apply Q_call (ih (nth l k) (nth_mem hk) (h _ (nth_mem hk)) (by omega)); exact EvL.auto; exact rfl)
    | (apply Q_calld (ih (nth l k) (nth_mem hk) (h _ (nth_mem hk)) (by omega)); exact EvD.auto)); exact rfl)
            | refine SX.Lit TYok (h := ?_)
            | refine SX.App TYok (h := ?_)
            | refine SX.Box TYok (h := ?_)
            | (refine W.condA (ht := fun hb => ?_) (hf := fun hb => ?_) <;> (try simp at hb) <;> (try (exfalso; omega))))
          refine ⟨k + 1, by omega, ?_, ?_⟩
          · simp only [listFs_take hk]
            exact Le.auto
          · (try simp only); omega
        · obtain rfl : k = l.length := by omega
          have hn : l.take l.length = l := List.take_length
          repeat' (first
            | apply RG.nil
            | apply Lex.nil
            | apply Then.n
            | apply Then.r
            | apply Then.x
            | apply InBlock.n
            | apply InBlock.r
            | apply InBlock.hit
            | (apply InBlock.miss; exact rfl)
            | apply W.seq
            | apply W.region
            | apply W.block
            | apply W.skip
            | apply W.ret
            | apply W.exit
            | ((first | apply U_); (first
    | exact QX.Move TYok
    | exact QX.Asg TYok
    | exact QX.Fld TYok
    | exact QX.Ld TYok
    | exact QX.Bin TYok
    | exact QX.Un TYok
    | exact QX.Len TYok
    | exact QX.Idx TYok); exact rfl)
            | refine SX.Lit TYok (h := ?_)
            | refine SX.App TYok (h := ?_)
            | refine SX.Box TYok (h := ?_)
            | (refine W.condA (ht := fun hb => ?_) (hf := fun hb => ?_) <;> (try simp at hb) <;> (try (exfalso; omega))))
          simp only [hn]
          exact Fin.ret ResL.auto
end Go.Proofs.Ytacilhkipekjlaa
