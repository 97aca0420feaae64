/-
  WatchTells
-/
import Derived.Test.YtacilhkipekjlaaRead
set_option linter.unusedVariables false
set_option linter.unusedSimpArgs false
set_option maxHeartbeats 8000000
namespace Go.Proofs.Ytacilhkipekjlaa
open Lf Go
attribute [local irreducible] PureOp EffOp Ev RG W Then InBlock Lf.Fin nth App InitE Pick SubE SubF SubG EvL EvD EvP EvR ResL Lf.Lex SubR SubBR RA RAll EvC FinO FinM ResM FinB ResD

def fewF (ts : List (List Int)) : Bool := ts.all (fun t => decide ((t.length : Int) ≤ 20)) && decide ((ts.length : Int) ≤ 8)
theorem fewT_ok (ts : List (List Int)) (ht : ts.length ≤ 9223372036854775807) : ACalls Try.prog 9 [slR ts] (.pv (cB (fewF ts))) := by
  refine ACalls.of_W (qs := [cB (fewF ts)]) [2] 23 Try.func9 (by kernel_rfl) rfl rfl rfl fun G => ?_
  refine W.initA (hw := ?_)
  repeat' (first
    | apply RG.nil
    | apply Lex.nil
    | apply Then.n
    | apply Then.r
    | apply Then.x
    | apply InBlock.n
    | apply InBlock.r
    | apply InBlock.hit
    | (apply InBlock.miss; exact rfl)
    | apply W.seq
    | apply W.region
    | apply W.block
    | apply W.skip
    | apply W.ret
    | apply W.exit
    | ((first | apply U_ | (apply Ug_; exact rfl; exact rfl) | (apply Ugq_; exact rfl; exact rfl)); (first
    | exact QX.Move TYok
    | exact QX.Asg TYok
    | exact QX.Ld TYok
    | exact QX.Bin TYok
    | exact QX.Pick TYok
    | exact QX.Len TYok
    | exact QX.Idx TYok); exact rfl)
    | (apply RG.gT; exact rfl; exact rfl; (first | assumption | decide))
    | (apply RG.gF; exact rfl; exact rfl; (first | assumption | decide | (rw [ne_eq, Bool.not_eq_true]; assumption) | (rw [ne_eq, Bool.not_eq_false]; assumption)); exact rfl)
    | (refine W.condA (ht := fun hb => ?_) (hf := fun hb => ?_) <;> (try simp at hb) <;> (try (exfalso; omega))))
  apply W.loopP (σ := Nat) 23 [0] (fun k => k ≤ ts.length ∧ k ≤ 9 ∧ (ts.take k).all (fun t => decide ((t.length : Int) ≤ 20)) = true) (fun k => [(3, vI k)]) (fun _ => []) (fun k => ts.length - k) (0)
  case hp => repeat (first | exact Pick.nil | apply Pick.cons rfl)
  case h0 =>
    refine ⟨by simp, ?_⟩
    exact Le.auto
  case round =>
    rintro k ⟨k1, k2, k3⟩
    apply W.norm (by repeat (first | exact App.nil | apply App.cons))
    by_cases hk : k < ts.length
    · by_cases h8 : k ≤ 8
      · repeat' (first
          | apply RG.nil
          | apply Lex.nil
          | apply Then.n
          | apply Then.r
          | apply Then.x
          | apply InBlock.n
          | apply InBlock.r
          | apply InBlock.hit
          | (apply InBlock.miss; exact rfl)
          | apply W.seq
          | apply W.region
          | apply W.block
          | apply W.skip
          | apply W.ret
          | apply W.exit
          | ((first | apply U_ | (apply Ug_; exact rfl; exact rfl) | (apply Ugq_; exact rfl; exact rfl)); (first
    | exact QX.Move TYok
    | exact QX.Asg TYok
    | exact QX.Ld TYok
    | exact QX.Bin TYok
    | exact QX.Pick TYok
    | exact QX.Len TYok
    | exact QX.Idx TYok); exact rfl)
          | (apply RG.gT; exact rfl; exact rfl; (first | assumption | decide))
          | (apply RG.gF; exact rfl; exact rfl; (first | assumption | decide | (rw [ne_eq, Bool.not_eq_true]; assumption) | (rw [ne_eq, Bool.not_eq_false]; assumption)); exact rfl)
          | (refine W.condA (ht := fun hb => ?_) (hf := fun hb => ?_) <;> (try simp at hb) <;> (try (exfalso; omega))))
        · have e : fewF ts = false := by
            rw [← Bool.not_eq_true]; intro hx
            simp only [fewF, Bool.and_eq_true, List.all_eq_true, decide_eq_true_iff] at hx
            have := hx.1 _ (nth_mem hk)
            have hb' : 20 < ((nth ts k).length : Int) := hb
            omega
          rw [e]
          exact Fin.ret ResL.auto
        · refine ⟨k + 1, ⟨by omega, by omega, ?_⟩, ?_, ?_⟩
          · have hb' : ((nth ts k).length : Int) ≤ 20 := hb
            rw [all_take hk, k3, decide_eq_true hb']; rfl
          · exact Le.auto
          · (try simp only); omega
      · have e : fewF ts = decide ((ts.length : Int) ≤ 8) := by
          have e1 : decide ((ts.length : Int) ≤ 8) = false := decide_eq_false (by omega)
          rw [fewF, e1, Bool.and_false]
        rw [e]
        repeat' (first
          | apply RG.nil
          | apply Lex.nil
          | apply Then.n
          | apply Then.r
          | apply Then.x
          | apply InBlock.n
          | apply InBlock.r
          | apply InBlock.hit
          | (apply InBlock.miss; exact rfl)
          | apply W.seq
          | apply W.region
          | apply W.block
          | apply W.skip
          | apply W.ret
          | apply W.exit
          | ((first | apply U_ | (apply Ug_; exact rfl; exact rfl) | (apply Ugq_; exact rfl; exact rfl)); (first
    | exact QX.Move TYok
    | exact QX.Asg TYok
    | exact QX.Ld TYok
    | exact QX.Bin TYok
    | exact QX.Pick TYok
    | exact QX.Len TYok
    | exact QX.Idx TYok); exact rfl)
          | (apply RG.gT; exact rfl; exact rfl; (first | assumption | decide))
          | (apply RG.gF; exact rfl; exact rfl; (first | assumption | decide | (rw [ne_eq, Bool.not_eq_true]; assumption) | (rw [ne_eq, Bool.not_eq_false]; assumption)); exact rfl)
          | (refine W.condA (ht := fun hb => ?_) (hf := fun hb => ?_) <;> (try simp at hb) <;> (try (exfalso; omega))))
        exact Fin.ret ResL.auto
    · obtain rfl : k = ts.length := by omega
      rw [List.take_length] at k3
      have e : fewF ts = decide ((ts.length : Int) ≤ 8) := by rw [fewF, k3, Bool.true_and]
      rw [e]
      repeat' (first
        | apply RG.nil
        | apply Lex.nil
        | apply Then.n
        | apply Then.r
        | apply Then.x
        | apply InBlock.n
        | apply InBlock.r
        | apply InBlock.hit
        | (apply InBlock.miss; exact rfl)
        | apply W.seq
        | apply W.region
        | apply W.block
        | apply W.skip
        | apply W.ret
        | apply W.exit
        | ((first | apply U_ | (apply Ug_; exact rfl; exact rfl) | (apply Ugq_; exact rfl; exact rfl)); (first
    | exact QX.Move TYok
    | exact QX.Asg TYok
    | exact QX.Ld TYok
    | exact QX.Bin TYok
    | exact QX.Pick TYok
    | exact QX.Len TYok
    | exact QX.Idx TYok); exact rfl)
        | (apply RG.gT; exact rfl; exact rfl; (first | assumption | decide))
        | (apply RG.gF; exact rfl; exact rfl; (first | assumption | decide | (rw [ne_eq, Bool.not_eq_true]; assumption) | (rw [ne_eq, Bool.not_eq_false]; assumption)); exact rfl)
        | (refine W.condA (ht := fun hb => ?_) (hf := fun hb => ?_) <;> (try simp at hb) <;> (try (exfalso; omega))))
      exact Fin.ret ResL.auto
theorem few_mem {ts : List (List Int)} (h : fewF ts = true) : ts.length ≤ 8 ∧ ∀ t ∈ ts, t.length ≤ 20 := by
  simp only [fewF, Bool.and_eq_true, List.all_eq_true, decide_eq_true_iff] at h
  exact ⟨by omega, fun t ht => by have := h.1 t ht; omega⟩
theorem run_len (e : Exp) (ts : List (List Int)) (days : Int) : (runF e ts days).1.length ≤ 1000 := by
  unfold runF
  split
  · rename_i hg
    rw [fitF] at hg
    simp only [Bool.and_eq_true, decide_eq_true_iff, Bool.not_eq_true'] at hg
    obtain ⟨⟨⟨⟨⟨g1, g2⟩, g3⟩, g4⟩, g5⟩, g6⟩ := hg
    have := nodeF_len g2 (fit_rows (e := e) g6) (by omega : (listF e).length ≤ ts.length)
    simp only
    omega
  · simp
theorem tells_ok (e : Exp) (ts : List (List Int)) (days : Int) (he : OkE e) (ht : ts.length ≤ 9223372036854775807) : ACalls Try.prog 3 [aE e, slR ts, cI days] (.pv (cB true)) := by
  have h0 := small_ok
  have h1 := fewE_ok e he
  have h2 := fewT_ok ts ht
  by_cases hw : countF 12 e ≤ 60 ∧ fewF ts = true
  case neg =>
    refine ACalls.of_W (qs := [cB true]) [6] 82 Try.func3 (by kernel_rfl) rfl rfl rfl fun G => ?_
    refine W.initA (hw := ?_)
    repeat' (first
      | apply RG.nil
      | apply Lex.nil
      | apply Then.n
      | apply Then.r
      | apply Then.x
      | apply InBlock.n
      | apply InBlock.r
      | apply InBlock.hit
      | (apply InBlock.miss; exact rfl)
      | apply W.seq
      | apply W.region
      | apply W.block
      | apply W.skip
      | apply W.ret
      | apply W.exit
      | (apply W.draw2 (id := 15) [0, 0, 3, 7, 0, 0, 48, 112, 255, 511] [[12], [14], [71, 72], [73], [13], [14], [75, 76], [77], [74, 78], [79]] 10 [(71, 4096), (72, 16384), (73, 7083549724304467820544), (74, 9444732965739290427392), (75, 8192), (76, 16384), (77, 113336795588871485128704), (78, 151115727451828646838272), (79, 321120920835135874531328), (80, 604462909807314587353088)] mixed (by kernel_rfl) rfl rfl)
      | ((first | apply U_ | (apply Ug_; exact rfl; exact rfl) | (apply Ugq_; exact rfl; exact rfl) | apply Lex.u | (apply Lex.g; exact rfl; exact rfl) | (apply Lex.gq; exact rfl; exact rfl)); (first
    | exact QX.Move TYok
    | exact QX.Asg TYok
    | exact QX.Ld TYok
    | exact QX.Bin TYok
    | exact QX.Pick TYok
    | exact QX.Un TYok
    | exact QX.Len TYok
    | exact QX.Idx TYok
    | exact QX.Ext TYok
    | (apply Q_calld (h0); exact EvD.auto)
    | (apply Q_calld (h1); exact EvD.auto)
    | (apply Q_call (h2); exact EvL.auto; exact rfl)); exact rfl)
      | refine SX.Box TYok (h := ?_)
      | (apply RG.gT; exact rfl; exact rfl; (first | assumption | decide))
      | (apply RG.gF; exact rfl; exact rfl; (first | assumption | decide | (rw [ne_eq, Bool.not_eq_true]; assumption) | (rw [ne_eq, Bool.not_eq_false]; assumption)); exact rfl)
      | (refine W.condA (ht := fun hb => ?_) (hf := fun hb => ?_) <;> (try simp at hb) <;> (try (exfalso; omega))))
    · exact Fin.ret ResL.auto
    all_goals (exfalso; apply hw; simp_all)
  obtain ⟨w1, w2⟩ := hw
  rw [decide_eq_true w1] at h1
  rw [w2] at h2
  obtain ⟨w3, w4⟩ := few_mem w2
  have hc : ((listF e).length : Int) ≤ 60 := by have := count_atoms 12 e w1; omega
  have h3 := run_ok e ts days he (by omega) (by omega) (fun t h => by have := w4 t h; omega)
  have h4 := rrun_ok e ts days he (by omega) (by omega) (fun t h => by have := w4 t h; omega)
  have h5 := atomsE_ok e he (by omega)
  have h6 := ratomsE_ok e he (by omega)
  have h7 := ints_ok (runF e ts days).1 (runF e ts days).1 (by have := run_len e ts days; omega) (by have := run_len e ts days; omega)
  rw [decide_eq_true rfl] at h7
  have hal : (atomsF e).length ≤ 60 := by unfold atomsF; split; (· omega); (· simp)
  have hae : ∀ x ∈ atomsF e, OkE x ∧ countF 12 x ≤ 60 := by
    intro x hx
    unfold atomsF at hx
    split at hx
    · exact ⟨ok_atom e he x hx, count_atom 12 e w1 x hx⟩
    · cases hx
  generalize runF e ts days = r at h3 h4 h7
  obtain ⟨a, f⟩ := r
  generalize atomsF e = l at h5 h6 hal hae
  refine ACalls.of_W (qs := [cB true]) [6] 82 Try.func3 (by kernel_rfl) rfl rfl rfl fun G => ?_
  refine W.initA (hw := ?_)
  repeat' (first
    | apply RG.nil
    | apply Lex.nil
    | apply Then.n
    | apply Then.r
    | apply Then.x
    | apply InBlock.n
    | apply InBlock.r
    | apply InBlock.hit
    | (apply InBlock.miss; exact rfl)
    | apply W.seq
    | apply W.region
    | apply W.block
    | apply W.skip
    | apply W.ret
    | apply W.exit
    | (apply W.draw2 (id := 15) [0, 0, 3, 7, 0, 0, 48, 112, 255, 511] [[12], [14], [71, 72], [73], [13], [14], [75, 76], [77], [74, 78], [79]] 10 [(71, 4096), (72, 16384), (73, 7083549724304467820544), (74, 9444732965739290427392), (75, 8192), (76, 16384), (77, 113336795588871485128704), (78, 151115727451828646838272), (79, 321120920835135874531328), (80, 604462909807314587353088)] mixed (by kernel_rfl) rfl rfl)
    | ((first | apply U_ | (apply Ug_; exact rfl; exact rfl) | (apply Ugq_; exact rfl; exact rfl) | apply Lex.u | (apply Lex.g; exact rfl; exact rfl) | (apply Lex.gq; exact rfl; exact rfl)); (first
    | exact QX.Move TYok
    | exact QX.Asg TYok
    | exact QX.Ld TYok
    | exact QX.Bin TYok
    | exact QX.Pick TYok
    | exact QX.Un TYok
    | exact QX.Len TYok
    | exact QX.Idx TYok
    | exact QX.Ext TYok
    | (apply Q_calld (h0); exact EvD.auto)
    | (apply Q_calld (h1); exact EvD.auto)
    | (apply Q_call (h2); exact EvL.auto; exact rfl)
    | (apply Q_calld (h3); exact EvD.auto)
    | (apply Q_calld (h4); exact EvD.auto)
    | (apply Q_calld (h5); exact EvD.auto)
    | (apply Q_calld (h6); exact EvD.auto)
    | (apply Q_calld (h7); exact EvD.auto)); exact rfl)
    | refine SX.Box TYok (h := ?_)
    | (apply RG.gT; exact rfl; exact rfl; (first | assumption | decide))
    | (apply RG.gF; exact rfl; exact rfl; (first | assumption | decide | (rw [ne_eq, Bool.not_eq_true]; assumption) | (rw [ne_eq, Bool.not_eq_false]; assumption)); exact rfl)
    | (refine W.condA (ht := fun hb => ?_) (hf := fun hb => ?_) <;> (try simp at hb) <;> (try (exfalso; omega))))
  apply W.loopP (σ := Nat) 82 [7, 12, 13] (fun k => k ≤ l.length) (fun k => [(14, vI k)]) (fun _ => []) (fun k => l.length - k) (0)
  case hp => repeat (first | exact Pick.nil | apply Pick.cons rfl)
  case h0 =>
    refine ⟨by simp, ?_⟩
    exact Le.auto
  case round =>
    rintro k k1
    apply W.norm (by repeat (first | exact App.nil | apply App.cons))
    by_cases hk : k < l.length
    · obtain ⟨q1, q2⟩ := hae _ (nth_mem hk)
      have h8 := fewE_ok _ q1
      rw [decide_eq_true q2] at h8
      have h9 := sameExp_ok _ q1
      repeat' (first
        | apply RG.nil
        | apply Lex.nil
        | apply Then.n
        | apply Then.r
        | apply Then.x
        | apply InBlock.n
        | apply InBlock.r
        | apply InBlock.hit
        | (apply InBlock.miss; exact rfl)
        | apply W.seq
        | apply W.region
        | apply W.block
        | apply W.skip
        | apply W.ret
        | apply W.exit
        | (apply W.draw2 (id := 15) [0, 0, 3, 7, 0, 0, 48, 112, 255, 511] [[12], [14], [71, 72], [73], [13], [14], [75, 76], [77], [74, 78], [79]] 10 [(71, 4096), (72, 16384), (73, 7083549724304467820544), (74, 9444732965739290427392), (75, 8192), (76, 16384), (77, 113336795588871485128704), (78, 151115727451828646838272), (79, 321120920835135874531328), (80, 604462909807314587353088)] mixed (by kernel_rfl) rfl rfl)
        | ((first | apply U_ | (apply Ug_; exact rfl; exact rfl) | (apply Ugq_; exact rfl; exact rfl) | apply Lex.u | (apply Lex.g; exact rfl; exact rfl) | (apply Lex.gq; exact rfl; exact rfl)); (first
    | exact QX.Move TYok
    | exact QX.Asg TYok
    | exact QX.Ld TYok
    | exact QX.Bin TYok
    | exact QX.Pick TYok
    | exact QX.Un TYok
    | exact QX.Len TYok
    | exact QX.Idx TYok
    | exact QX.Ext TYok
    | (apply Q_calld (h8); exact EvD.auto)
    | (apply Q_calld (h9); exact EvD.auto)); exact rfl)
        | refine SX.Box TYok (h := ?_)
        | (apply RG.gT; exact rfl; exact rfl; (first | assumption | decide))
        | (apply RG.gF; exact rfl; exact rfl; (first | assumption | decide | (rw [ne_eq, Bool.not_eq_true]; assumption) | (rw [ne_eq, Bool.not_eq_false]; assumption)); exact rfl)
        | (refine W.condA (ht := fun hb => ?_) (hf := fun hb => ?_) <;> (try simp at hb) <;> (try (exfalso; omega))))
      refine ⟨k + 1, by omega, ?_, ?_⟩
      · exact Le.auto
      · (try simp only); omega
    · obtain rfl : k = l.length := by omega
      repeat' (first
        | apply RG.nil
        | apply Lex.nil
        | apply Then.n
        | apply Then.r
        | apply Then.x
        | apply InBlock.n
        | apply InBlock.r
        | apply InBlock.hit
        | (apply InBlock.miss; exact rfl)
        | apply W.seq
        | apply W.region
        | apply W.block
        | apply W.skip
        | apply W.ret
        | apply W.exit
        | (apply W.draw2 (id := 15) [0, 0, 3, 7, 0, 0, 48, 112, 255, 511] [[12], [14], [71, 72], [73], [13], [14], [75, 76], [77], [74, 78], [79]] 10 [(71, 4096), (72, 16384), (73, 7083549724304467820544), (74, 9444732965739290427392), (75, 8192), (76, 16384), (77, 113336795588871485128704), (78, 151115727451828646838272), (79, 321120920835135874531328), (80, 604462909807314587353088)] mixed (by kernel_rfl) rfl rfl)
        | ((first | apply U_ | (apply Ug_; exact rfl; exact rfl) | (apply Ugq_; exact rfl; exact rfl) | apply Lex.u | (apply Lex.g; exact rfl; exact rfl) | (apply Lex.gq; exact rfl; exact rfl)); (first
    | exact QX.Move TYok
    | exact QX.Asg TYok
    | exact QX.Ld TYok
    | exact QX.Bin TYok
    | exact QX.Pick TYok
    | exact QX.Un TYok
    | exact QX.Len TYok
    | exact QX.Idx TYok
    | exact QX.Ext TYok); exact rfl)
        | refine SX.Box TYok (h := ?_)
        | (apply RG.gT; exact rfl; exact rfl; (first | assumption | decide))
        | (apply RG.gF; exact rfl; exact rfl; (first | assumption | decide | (rw [ne_eq, Bool.not_eq_true]; assumption) | (rw [ne_eq, Bool.not_eq_false]; assumption)); exact rfl)
        | (refine W.condA (ht := fun hb => ?_) (hf := fun hb => ?_) <;> (try simp at hb) <;> (try (exfalso; omega))))
      exact Fin.ret ResL.auto
end Go.Proofs.Ytacilhkipekjlaa
