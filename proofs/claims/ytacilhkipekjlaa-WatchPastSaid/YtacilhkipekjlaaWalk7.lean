/-
  Atoms, copied; expressions compared.
-/
import Derived.Test.YtacilhkipekjlaaWalk6
set_option linter.unusedVariables false
set_option linter.unusedSimpArgs false
set_option maxHeartbeats 8000000
namespace Go.Proofs.Ytacilhkipekjlaa
open Lf Go
attribute [local irreducible] PureOp EffOp Ev RG W Then InBlock Lf.Fin nth App InitE Pick SubE SubF SubG EvL EvD EvP EvR ResL Lf.Lex SubR SubBR RA RAll EvC FinO FinM ResM FinB ResD

/-! ### the atoms, copied; expressions compared; few nodes -/
theorem atoms_ok (e : Exp) : OkE e → ArE e → (listF e).length ≤ 1000000 → ACalls Try.prog 22 [aE e] (.pv (slE (listF e))) := by
  refine Exp.ind (P := fun e => OkE e → ArE e → (listF e).length ≤ 1000000 → ACalls Try.prog 22 [aE e] (.pv (slE (listF e)))) (fun op n u s l ih he ha hN => ?_) e
  have hcp := copied_ok _ he ha
  cases he with
  | mk hs hl h =>
  cases ha with
  | mk hl3 h3 =>
  rw [listF] at hN ⊢
  have hm := aE_mk op n u s l
  rw [hm] at hcp ⊢
  cases hf : framedF op with
  | false =>
    have hone : slE [Exp.mk op n u s l] = .one (.sl [[.int .i64 op, .int .i64 n, .int .i64 u, .str s, .sl (l.map encX)]]) := by
      injection hm with hm
      show PV.one (Cell.sl [encX (.mk op n u s l)]) = _
      rw [hm]
    simp only [Bool.false_eq_true, if_false]
    rw [hone]
    refine ACalls.of_W (qs := [.one (.sl [[.int .i64 op, .int .i64 n, .int .i64 u, .str s, .sl (l.map encX)]])]) [2] 26 Try.func22 (by kernel_rfl) rfl rfl rfl fun G => ?_
    refine W.initA (hw := ?_)
    repeat' (first
      | apply RG.nil
      | apply Lex.nil
      | apply Then.n
      | apply Then.r
      | apply Then.x
      | apply InBlock.n
      | apply InBlock.r
      | apply InBlock.hit
      | (apply InBlock.miss; exact rfl)
      | apply W.seq
      | apply W.region
      | apply W.block
      | apply W.skip
      | apply W.ret
      | apply W.exit
      | ((first | apply U_); (first
    | exact QX.Move TYok
    | exact QX.Asg TYok
    | exact QX.Fld TYok
    | exact QX.Ld TYok
    | exact QX.Bin TYok
    | exact QX.Un TYok
    | exact QX.Len TYok
    | exact QX.Idx TYok
    | (apply Q_call (framed_ok op); exact EvL.auto; exact rfl)
    | (apply Q_calld (hcp); exact EvD.auto)); exact rfl)
      | refine SX.Alloc TYok (h := ?_)
      | refine SX.Store TYok (h := ?_)
      | refine SX.Lit TYok (h := ?_)
      | refine SX.App TYok (h := ?_)
      | refine SX.Box TYok (h := ?_)
      | (refine W.condA (ht := fun hb => ?_) (hf := fun hb => ?_) <;> (try simp at hb) <;> (try (exfalso; omega))))
    · exact Fin.ret ResL.auto
    · rw [hf] at hb; cases hb
  | true =>
    rw [hf] at hN
    simp only [if_true] at hN ⊢
    refine ACalls.of_W (qs := [slE (listFs l)]) [2] 26 Try.func22 (by kernel_rfl) rfl rfl rfl fun G => ?_
    refine W.initA (hw := ?_)
    repeat' (first
      | apply RG.nil
      | apply Lex.nil
      | apply Then.n
      | apply Then.r
      | apply Then.x
      | apply InBlock.n
      | apply InBlock.r
      | apply InBlock.hit
      | (apply InBlock.miss; exact rfl)
      | apply W.seq
      | apply W.region
      | apply W.block
      | apply W.skip
      | apply W.ret
      | apply W.exit
      | ((first | apply U_); (first
    | exact QX.Move TYok
    | exact QX.Asg TYok
    | exact QX.Fld TYok
    | exact QX.Ld TYok
    | exact QX.Bin TYok
    | exact QX.Un TYok
    | exact QX.Len TYok
    | exact QX.Idx TYok
    | (apply Q_call (framed_ok op); exact EvL.auto; exact rfl)); exact rfl)
      | refine SX.Alloc TYok (h := ?_)
      | refine SX.Store TYok (h := ?_)
      | refine SX.Lit TYok (h := ?_)
      | refine SX.App TYok (h := ?_)
      | refine SX.Box TYok (h := ?_)
      | (refine W.condA (ht := fun hb => ?_) (hf := fun hb => ?_) <;> (try simp at hb) <;> (try (exfalso; omega))))
    · rw [hf] at hb; cases hb
    · refine W.weaken (Le.nilOwn (t := 3) (n := 23) (E := 24) (sz := 5) rfl) ?_
      apply W.loopP (σ := Nat) 26 [14, 15] (fun k => k ≤ l.length) (fun k => [(3, (True, .slc 23)), (16, vI k)]) (fun k => [(23, ⟨24, 5, (listFs (l.take k)).map encX⟩)]) (fun k => l.length - k) (0)
      case hp => repeat (first | exact Pick.nil | apply Pick.cons rfl)
      case h0 =>
        refine ⟨by simp, ?_⟩
        simp only [List.take_zero, listFs, List.map_nil]
        exact Le.auto
      case round =>
        rintro k h1
        apply W.norm (by repeat (first | exact App.nil | apply App.cons))
        by_cases hk : k < l.length
        · have g1 := listFs_le (l := l) (k + 1)
          have g2 := listF_le hk
          rw [listFs_take hk, List.length_append] at g1
          repeat' (first
            | apply RG.nil
            | apply Lex.nil
            | apply Then.n
            | apply Then.r
            | apply Then.x
            | apply InBlock.n
            | apply InBlock.r
            | apply InBlock.hit
            | (apply InBlock.miss; exact rfl)
            | apply W.seq
            | apply W.region
            | apply W.block
            | apply W.skip
            | apply W.ret
            | apply W.exit
            | ((first | apply U_); (first
    | exact QX.Move TYok
    | exact QX.Asg TYok
    | exact QX.Fld TYok
    | exact QX.Ld TYok
    | exact QX.Bin TYok
    | exact QX.Un TYok
    | exact QX.Len TYok
    | exact QX.Idx TYok
    | (apply Q_calld (ih (nth l k) (nth_mem hk) (h _ (nth_mem hk)) (h3 _ (nth_mem hk)) (by omega)); exact EvD.auto)); exact rfl)
            | refine SX.Alloc TYok (h := ?_)
            | refine SX.Store TYok (h := ?_)
            | refine SX.Lit TYok (h := ?_)
            | refine SX.App TYok (h := ?_)
            | refine SX.Box TYok (h := ?_)
            | (refine W.condA (ht := fun hb => ?_) (hf := fun hb => ?_) <;> (try simp at hb) <;> (try (exfalso; omega))))
          refine ⟨k + 1, by omega, ?_, ?_⟩
          · simp only [listFs_take hk]
            exact Le.auto
          · (try simp only); omega
        · obtain rfl : k = l.length := by omega
          have hn : l.take l.length = l := List.take_length
          repeat' (first
            | apply RG.nil
            | apply Lex.nil
            | apply Then.n
            | apply Then.r
            | apply Then.x
            | apply InBlock.n
            | apply InBlock.r
            | apply InBlock.hit
            | (apply InBlock.miss; exact rfl)
            | apply W.seq
            | apply W.region
            | apply W.block
            | apply W.skip
            | apply W.ret
            | apply W.exit
            | ((first | apply U_); (first
    | exact QX.Move TYok
    | exact QX.Asg TYok
    | exact QX.Fld TYok
    | exact QX.Ld TYok
    | exact QX.Bin TYok
    | exact QX.Un TYok
    | exact QX.Len TYok
    | exact QX.Idx TYok); exact rfl)
            | refine SX.Alloc TYok (h := ?_)
            | refine SX.Store TYok (h := ?_)
            | refine SX.Lit TYok (h := ?_)
            | refine SX.App TYok (h := ?_)
            | refine SX.Box TYok (h := ?_)
            | (refine W.condA (ht := fun hb => ?_) (hf := fun hb => ?_) <;> (try simp at hb) <;> (try (exfalso; omega))))
          simp only [hn]
          exact Fin.ret ResL.auto
mutual
def sameF : Exp → Exp → Bool
  | .mk op n u s l, .mk op' n' u' s' l' => decide (op = op') && decide (n = n') && decide (u = u') && decide (s = s') && sameFs l l'
def sameFs : List Exp → List Exp → Bool
  | [], [] => true
  | e :: r, e' :: r' => sameF e e' && sameFs r r'
  | _, _ => false
end
mutual
theorem sameF_refl : ∀ e, sameF e e = true
  | .mk op n u s l => by simp [sameF, sameFs_refl l]
theorem sameFs_refl : ∀ l, sameFs l l = true
  | [] => rfl
  | e :: r => by rw [sameFs, sameF_refl e, sameFs_refl r]; rfl
end
/-- an expression compared with itself -/
theorem sameExp_ok (e : Exp) : OkE e → ACalls Try.prog 15 [aE e, aE e] (.pv (cB true)) := by
  refine Exp.ind (P := fun e => OkE e → ACalls Try.prog 15 [aE e, aE e] (.pv (cB true))) (fun op n u s l ih he => ?_) e
  cases he with
  | mk hs hl h =>
  rw [aE_mk]
  refine ACalls.of_W (qs := [cB true]) [4] 60 Try.func15 (by kernel_rfl) rfl rfl rfl fun G => ?_
  refine W.initA (hw := ?_)
  repeat' (first
    | apply RG.nil
    | apply Lex.nil
    | apply Then.n
    | apply Then.r
    | apply Then.x
    | apply InBlock.n
    | apply InBlock.r
    | apply InBlock.hit
    | (apply InBlock.miss; exact rfl)
    | apply W.seq
    | apply W.region
    | apply W.block
    | apply W.skip
    | apply W.ret
    | apply W.exit
    | (apply W.draw2 (id := 6) [0, 1, 0, 7, 15, 0, 32, 0, 224, 480, 1023, 2047] [[2], [48], [5], [49, 50], [51], [3], [53], [5], [54, 55], [56], [52, 57], [58]] 12 [(48, 4), (49, 281474976710656), (50, 32), (51, 1688849860263936), (52, 2251799813685248), (53, 8), (54, 9007199254740992), (55, 32), (56, 54043195528445952), (57, 72057594037927936), (58, 148618787703226368), (59, 288230376151711744)] mixed (by kernel_rfl) rfl rfl)
    | ((first | apply U_ | (apply Ug_; exact rfl; exact rfl) | (apply Ugq_; exact rfl; exact rfl) | apply Lex.u | (apply Lex.g; exact rfl; exact rfl) | (apply Lex.gq; exact rfl; exact rfl)); (first
    | exact QX.Move TYok
    | exact QX.Asg TYok
    | exact QX.Fld TYok
    | exact QX.Ld TYok
    | exact QX.Bin TYok
    | exact QX.Pick TYok
    | exact QX.Un TYok
    | exact QX.Len TYok
    | exact QX.Idx TYok); exact rfl)
    | refine SX.Box TYok (h := ?_)
    | (apply RG.gT; exact rfl; exact rfl; (first | assumption | decide))
    | (apply RG.gF; exact rfl; exact rfl; (first | assumption | decide | (rw [ne_eq, Bool.not_eq_true]; assumption) | (rw [ne_eq, Bool.not_eq_false]; assumption)); exact rfl)
    | (refine W.condA (ht := fun hb => ?_) (hf := fun hb => ?_) <;> (try simp at hb) <;> (try (exfalso; omega))))
  apply W.loopP (σ := Nat) 60 [2, 3] (fun k => k ≤ l.length) (fun k => [(5, vI k)]) (fun _ => [(2, ⟨24, 5, [[.int .i64 op, .int .i64 n, .int .i64 u, .str s, .sl (l.map encX)]]⟩), (3, ⟨24, 5, [[.int .i64 op, .int .i64 n, .int .i64 u, .str s, .sl (l.map encX)]]⟩)]) (fun k => l.length - k) (0)
  case hp => repeat (first | exact Pick.nil | apply Pick.cons rfl)
  case h0 =>
    refine ⟨by simp, ?_⟩
    exact Le.auto
  case round =>
    rintro k h1
    apply W.norm (by repeat (first | exact App.nil | apply App.cons))
    by_cases hk : k < l.length
    · repeat' (first
        | apply RG.nil
        | apply Lex.nil
        | apply Then.n
        | apply Then.r
        | apply Then.x
        | apply InBlock.n
        | apply InBlock.r
        | apply InBlock.hit
        | (apply InBlock.miss; exact rfl)
        | apply W.seq
        | apply W.region
        | apply W.block
        | apply W.skip
        | apply W.ret
        | apply W.exit
        | (apply W.draw2 (id := 6) [0, 1, 0, 7, 15, 0, 32, 0, 224, 480, 1023, 2047] [[2], [48], [5], [49, 50], [51], [3], [53], [5], [54, 55], [56], [52, 57], [58]] 12 [(48, 4), (49, 281474976710656), (50, 32), (51, 1688849860263936), (52, 2251799813685248), (53, 8), (54, 9007199254740992), (55, 32), (56, 54043195528445952), (57, 72057594037927936), (58, 148618787703226368), (59, 288230376151711744)] mixed (by kernel_rfl) rfl rfl)
        | ((first | apply U_ | (apply Ug_; exact rfl; exact rfl) | (apply Ugq_; exact rfl; exact rfl) | apply Lex.u | (apply Lex.g; exact rfl; exact rfl) | (apply Lex.gq; exact rfl; exact rfl)); (first
    | exact QX.Move TYok
    | exact QX.Asg TYok
    | exact QX.Fld TYok
    | exact QX.Ld TYok
    | exact QX.Bin TYok
    | exact QX.Pick TYok
    | exact QX.Un TYok
    | exact QX.Len TYok
    | exact QX.Idx TYok
    | (apply Q_call (ih (nth l k) (nth_mem hk) (h _ (nth_mem hk))); exact EvL.auto; exact rfl)); exact rfl)
        | refine SX.Box TYok (h := ?_)
        | (apply RG.gT; exact rfl; exact rfl; (first | assumption | decide))
        | (apply RG.gF; exact rfl; exact rfl; (first | assumption | decide | (rw [ne_eq, Bool.not_eq_true]; assumption) | (rw [ne_eq, Bool.not_eq_false]; assumption)); exact rfl)
        | (refine W.condA (ht := fun hb => ?_) (hf := fun hb => ?_) <;> (try simp at hb) <;> (try (exfalso; omega))))
      refine ⟨k + 1, by omega, ?_, ?_⟩
      · exact Le.auto
      · (try simp only); omega
    · obtain rfl : k = l.length := by omega
      repeat' (first
        | apply RG.nil
        | apply Lex.nil
        | apply Then.n
        | apply Then.r
        | apply Then.x
        | apply InBlock.n
        | apply InBlock.r
        | apply InBlock.hit
        | (apply InBlock.miss; exact rfl)
        | apply W.seq
        | apply W.region
        | apply W.block
        | apply W.skip
        | apply W.ret
        | apply W.exit
        | (apply W.draw2 (id := 6) [0, 1, 0, 7, 15, 0, 32, 0, 224, 480, 1023, 2047] [[2], [48], [5], [49, 50], [51], [3], [53], [5], [54, 55], [56], [52, 57], [58]] 12 [(48, 4), (49, 281474976710656), (50, 32), (51, 1688849860263936), (52, 2251799813685248), (53, 8), (54, 9007199254740992), (55, 32), (56, 54043195528445952), (57, 72057594037927936), (58, 148618787703226368), (59, 288230376151711744)] mixed (by kernel_rfl) rfl rfl)
        | ((first | apply U_ | (apply Ug_; exact rfl; exact rfl) | (apply Ugq_; exact rfl; exact rfl) | apply Lex.u | (apply Lex.g; exact rfl; exact rfl) | (apply Lex.gq; exact rfl; exact rfl)); (first
    | exact QX.Move TYok
    | exact QX.Asg TYok
    | exact QX.Fld TYok
    | exact QX.Ld TYok
    | exact QX.Bin TYok
    | exact QX.Pick TYok
    | exact QX.Un TYok
    | exact QX.Len TYok
    | exact QX.Idx TYok); exact rfl)
        | refine SX.Box TYok (h := ?_)
        | (apply RG.gT; exact rfl; exact rfl; (first | assumption | decide))
        | (apply RG.gF; exact rfl; exact rfl; (first | assumption | decide | (rw [ne_eq, Bool.not_eq_true]; assumption) | (rw [ne_eq, Bool.not_eq_false]; assumption)); exact rfl)
        | (refine W.condA (ht := fun hb => ?_) (hf := fun hb => ?_) <;> (try simp at hb) <;> (try (exfalso; omega))))
      exact Fin.ret ResL.auto
end Go.Proofs.Ytacilhkipekjlaa
