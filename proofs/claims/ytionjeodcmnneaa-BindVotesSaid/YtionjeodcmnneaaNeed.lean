/-
  What a change needs
-/
import Derived.Test.YtionjeodcmnneaaRSame
set_option linter.unusedVariables false
set_option linter.unusedSimpArgs false
set_option maxHeartbeats 8000000
namespace Go.Proofs.Ytionjeodcmnneaa
open Lf Go
attribute [local irreducible] PureOp EffOp Ev RG W Then InBlock Lf.Fin nth App InitE Pick SubE SubF SubG EvL EvD EvP EvR ResL Lf.Lex SubR SubBR RA RAll EvC FinO FinM ResM FinB ResD

def fineF (m y a : Int) : Bool := decide (m ≥ 1) && decide (m ≤ 1000) && decide (a ≥ 1) && decide (a ≤ 1000000000) && decide (y ≥ 0) && decide (y ≤ a)
theorem fine_ok (m y a : Int) : ACalls Try.prog 37 [cI m, cI y, cI a] (.pv (cB (fineF m y a))) := by
  refine ACalls.of_W (qs := [cB (fineF m y a)]) [6] 30 Try.func37 (by kernel_rfl) rfl rfl rfl fun G => ?_
  refine W.initA (hw := ?_)
  repeat' (first
    | apply RG.nil
    | apply Lex.nil
    | apply Then.n
    | apply Then.r
    | apply Then.x
    | apply InBlock.n
    | apply InBlock.r
    | apply InBlock.hit
    | (apply InBlock.miss; exact rfl)
    | apply W.seq
    | apply W.region
    | apply W.block
    | apply W.skip
    | apply W.ret
    | apply W.exit
    | ((first | apply U_ | (apply Ug_; exact rfl; exact rfl) | (apply Ugq_; exact rfl; exact rfl)); (first
    | exact QX.Move TYok
    | exact QX.Asg TYok
    | exact QX.Bin TYok
    | exact QX.Pick TYok); exact rfl)
    | (apply RG.gT; exact rfl; exact rfl; (first | assumption | decide))
    | (apply RG.gF; exact rfl; exact rfl; (first | assumption | decide | (rw [ne_eq, Bool.not_eq_true]; assumption) | (rw [ne_eq, Bool.not_eq_false]; assumption)); exact rfl)
    | (refine W.condA (ht := fun hb => ?_) (hf := fun hb => ?_) <;> (try simp at hb) <;> (try (exfalso; omega))))
  exact Fin.ret ResL.auto


def reachF (m y a : Int) : Bool := fineF m y a && decide (1000 * y ≥ m * a)
theorem fineF_iff {m y a : Int} : fineF m y a = true ↔ 1 ≤ m ∧ m ≤ 1000 ∧ 1 ≤ a ∧ a ≤ 1000000000 ∧ 0 ≤ y ∧ y ≤ a := by
  simp [fineF, and_assoc]
theorem prod_le {m a : Int} (h : 1 ≤ m ∧ m ≤ 1000 ∧ 1 ≤ a ∧ a ≤ 1000000000) : 1 ≤ m * a ∧ m * a ≤ 1000000000000 := by
  have h1 : m * a ≤ 1000 * a := Int.mul_le_mul_of_nonneg_right h.2.1 (by omega)
  have h2 : 1 * a ≤ m * a := Int.mul_le_mul_of_nonneg_right h.1 (by omega)
  omega
theorem reached_ok (m y a : Int) : ACalls Try.prog 19 [cI m, cI y, cI a] (.pv (cB (reachF m y a))) := by
  refine ACalls.of_W (qs := [cB (reachF m y a)]) [6] 19 Try.func19 (by kernel_rfl) rfl rfl rfl fun G => ?_
  refine W.initA (hw := ?_)
  repeat' (first
    | apply RG.nil
    | apply Lex.nil
    | apply Then.n
    | apply Then.r
    | apply Then.x
    | apply InBlock.n
    | apply InBlock.r
    | apply InBlock.hit
    | (apply InBlock.miss; exact rfl)
    | apply W.seq
    | apply W.region
    | apply W.block
    | apply W.skip
    | apply W.ret
    | apply W.exit
    | ((first | apply U_ | (apply Ug_; exact rfl; exact rfl) | (apply Ugq_; exact rfl; exact rfl)); (first
    | exact QX.Move TYok
    | exact QX.Asg TYok
    | exact QX.Bin TYok
    | exact QX.Pick TYok
    | (apply Q_call (fine_ok m y a); exact EvL.auto; exact rfl)); exact rfl)
    | (apply RG.gT; exact rfl; exact rfl; (first | assumption | decide))
    | (apply RG.gF; exact rfl; exact rfl; (first | assumption | decide | (rw [ne_eq, Bool.not_eq_true]; assumption) | (rw [ne_eq, Bool.not_eq_false]; assumption)); exact rfl)
    | (refine W.condA (ht := fun hb => ?_) (hf := fun hb => ?_) <;> (try simp at hb) <;> (try (exfalso; omega))))
  have e : reachF m y a = (fineF m y a && decide (IntKind.i64.wrap (1000 * y) ≥ IntKind.i64.wrap (m * a))) := by
    unfold reachF
    cases h : fineF m y a with
    | false => rfl
    | true =>
      have := fineF_iff.1 h
      have := prod_le (m := m) (a := a) (by omega)
      rw [i64_id (by omega), i64_id (by omega)]
  rw [e]
  exact Fin.ret ResL.auto
def encB (b : Bool) : List Cell := [.bool b]
abbrev slB (l : List Bool) : PV := .one (.sl (l.map encB))
theorem bools_ok (a b : List Bool) (ha : a.length ≤ 1000000) : ACalls Try.prog 12 [slB a, slB b] (.pv (cB (decide (a = b)))) := by
  refine ACalls.of_W (qs := [cB (decide (a = b))]) [4] 26 Try.func12 (by kernel_rfl) rfl rfl rfl fun G => ?_
  refine W.initA (hw := ?_)
  repeat' (first
    | apply RG.nil
    | apply Lex.nil
    | apply Then.n
    | apply Then.r
    | apply Then.x
    | apply InBlock.n
    | apply InBlock.r
    | apply InBlock.hit
    | (apply InBlock.miss; exact rfl)
    | apply W.seq
    | apply W.region
    | apply W.block
    | apply W.skip
    | apply W.ret
    | apply W.exit
    | (apply W.draw2 (id := 6) [0, 0, 3, 7, 0, 0, 48, 112, 255] [[0], [5], [17, 18], [19], [1], [5], [21, 22], [23], [20, 24]] 9 [(17, 1), (18, 32), (19, 393216), (20, 524288), (21, 2), (22, 32), (23, 6291456), (24, 8388608), (25, 17825792)] mixed (by kernel_rfl) rfl rfl)
    | ((first | apply U_ | apply Lex.u | (apply Lex.g; exact rfl; exact rfl) | (apply Lex.gq; exact rfl; exact rfl)); (first
    | exact QX.Move TYok
    | exact QX.Asg TYok
    | exact QX.Ld TYok
    | exact QX.Bin TYok
    | exact QX.Len TYok
    | exact QX.Idx TYok); exact rfl)
    | (refine W.condA (ht := fun hb => ?_) (hf := fun hb => ?_) <;> (try simp at hb) <;> (try (exfalso; omega))))
  · have e : decide (a = b) = false := by
      simp only [decide_eq_false_iff_not]
      intro h; subst h; exact hb rfl
    rw [e]
    exact Fin.ret ResL.auto
  apply W.loopP (σ := Nat) 26 [0, 1] (fun k => k ≤ a.length ∧ decide (a = b) = decide (a.drop k = b.drop k)) (fun k => [(5, vI k)]) (fun _ => []) (fun k => a.length - k) (0)
  case hp => repeat (first | exact Pick.nil | apply Pick.cons rfl)
  case h0 =>
    refine ⟨⟨by omega, rfl⟩, ?_⟩
    exact Le.auto
  case round =>
    rintro k ⟨h1, h2⟩
    apply W.norm (by repeat (first | exact App.nil | apply App.cons))
    repeat' (first
      | apply RG.nil
      | apply Lex.nil
      | apply Then.n
      | apply Then.r
      | apply Then.x
      | apply InBlock.n
      | apply InBlock.r
      | apply InBlock.hit
      | (apply InBlock.miss; exact rfl)
      | apply W.seq
      | apply W.region
      | apply W.block
      | apply W.skip
      | apply W.ret
      | apply W.exit
      | (apply W.draw2 (id := 6) [0, 0, 3, 7, 0, 0, 48, 112, 255] [[0], [5], [17, 18], [19], [1], [5], [21, 22], [23], [20, 24]] 9 [(17, 1), (18, 32), (19, 393216), (20, 524288), (21, 2), (22, 32), (23, 6291456), (24, 8388608), (25, 17825792)] mixed (by kernel_rfl) rfl rfl)
      | ((first | apply U_ | apply Lex.u | (apply Lex.g; exact rfl; exact rfl) | (apply Lex.gq; exact rfl; exact rfl)); (first
    | exact QX.Move TYok
    | exact QX.Asg TYok
    | exact QX.Ld TYok
    | exact QX.Bin TYok
    | exact QX.Len TYok
    | exact QX.Idx TYok); exact rfl)
      | (refine W.condA (ht := fun hb => ?_) (hf := fun hb => ?_) <;> (try simp at hb) <;> (try (exfalso; omega))))
    · have e : decide (a = b) = false := by
        rw [h2, drop_nth ‹_›, drop_nth (l := b) (by omega)]
        simp [hb]
      rw [e]
      exact Fin.ret ResL.auto
    · refine ⟨k + 1, ⟨by omega, ?_⟩, ?_, ?_⟩
      · rw [h2, drop_nth ‹_›, drop_nth (l := b) (by omega)]
        simp [hb]
      · exact Le.auto
      · omega
    · obtain rfl : k = a.length := by omega
      have e : decide (a = b) = true := by
        rw [h2, List.drop_length, List.drop_eq_nil_of_le (by omega)]
        rfl
      rw [e]
      exact Fin.ret ResL.auto

def needF (a b : Ind) : Int := if sameN a b = true then 0 else if resF a b = true then a.majority else 501
theorem needed_ok (a b : Ind) (ha : OkN a) (hB : OkN b) : ACalls Try.prog 13 [aN a, aN b] (.pv (cI (needF a b))) := by
  have h1 := same_ok a b ha hB
  have h2 := reserved_ok38 a b ha hB
  refine ACalls.of_W (qs := [cI (needF a b)]) [4] 15 Try.func13 (by kernel_rfl) rfl rfl rfl fun G => ?_
  refine W.initA (hw := ?_)
  repeat' (first
    | apply RG.nil
    | apply Lex.nil
    | apply Then.n
    | apply Then.r
    | apply Then.x
    | apply InBlock.n
    | apply InBlock.r
    | apply InBlock.hit
    | (apply InBlock.miss; exact rfl)
    | apply W.seq
    | apply W.region
    | apply W.block
    | apply W.skip
    | apply W.ret
    | apply W.exit
    | ((first | apply U_); (first
    | exact QX.Asg TYok
    | exact QX.Fld TYok
    | exact QX.Ld TYok
    | (apply Q_calld (h1); exact EvD.auto)
    | (apply Q_calld (h2); exact EvD.auto)); exact rfl)
    | refine SX.Box TYok (h := ?_)
    | (refine W.condA (ht := fun hb => ?_) (hf := fun hb => ?_) <;> (try simp at hb) <;> (try (exfalso; omega))))
  · rw [needF, if_pos hb]; exact Fin.ret ResL.auto
  · skip
    rw [needF, if_neg (by simpa using ‹sameN a b = false›), if_pos hb]; exact Fin.ret ResL.auto
  · rw [needF, if_neg (by simpa using ‹sameN a b = false›), if_neg (by simp [hb])]; exact Fin.ret ResL.auto
def gotF (a b : Ind) (y t : Int) : Bool := reachF (needF a b) y t
theorem got_ok (a b : Ind) (y t : Int) (ha : OkN a) (hB : OkN b) : ACalls Try.prog 15 [aN a, aN b, cI y, cI t] (.pv (cB (gotF a b y t))) := by
  have h1 := needed_ok a b ha hB
  have h2 := reached_ok (needF a b) y t
  refine ACalls.of_W (qs := [cB (gotF a b y t)]) [8] 15 Try.func15 (by kernel_rfl) rfl rfl rfl fun G => ?_
  refine W.initA (hw := ?_)
  repeat' (first
    | apply RG.nil
    | apply Lex.nil
    | apply Then.n
    | apply Then.r
    | apply Then.x
    | apply InBlock.n
    | apply InBlock.r
    | apply InBlock.hit
    | (apply InBlock.miss; exact rfl)
    | apply W.seq
    | apply W.region
    | apply W.block
    | apply W.skip
    | apply W.ret
    | apply W.exit
    | ((first | apply U_); (first
    | exact QX.Move TYok
    | exact QX.Asg TYok
    | exact QX.Ld TYok
    | (apply Q_calld (h1); exact EvD.auto)
    | (apply Q_call (h2); exact EvL.auto; exact rfl)); exact rfl)
    | refine SX.Box TYok (h := ?_)
    | (refine W.condA (ht := fun hb => ?_) (hf := fun hb => ?_) <;> (try simp at hb) <;> (try (exfalso; omega))))
  exact Fin.ret ResL.auto
end Go.Proofs.Ytionjeodcmnneaa
