/-
  The reference's run
-/
import Derived.Test.YtacilhkipekjlaaWalk14
set_option linter.unusedVariables false
set_option linter.unusedSimpArgs false
set_option maxHeartbeats 8000000
namespace Go.Proofs.Ytacilhkipekjlaa
open Lf Go
attribute [local irreducible] PureOp EffOp Ev RG W Then InBlock Lf.Fin nth App InitE Pick SubE SubF SubG EvL EvD EvP EvR ResL Lf.Lex SubR SubBR RA RAll EvC FinO FinM ResM FinB ResD

/-! ### the reference's run; the examples -/
theorem ints_ok (a b : List Int) (ha : a.length ≤ 1000000) (hb : b.length ≤ 1000000) : ACalls Try.prog 14 [slI a, slI b] (.pv (cB (decide (a = b)))) := by
  refine ACalls.of_W (qs := [cB (decide (a = b))]) [4] 26 Try.func14 (by kernel_rfl) rfl rfl rfl fun G => ?_
  refine W.initA (hw := ?_)
  repeat' (first
    | apply RG.nil
    | apply Lex.nil
    | apply Then.n
    | apply Then.r
    | apply Then.x
    | apply InBlock.n
    | apply InBlock.r
    | apply InBlock.hit
    | (apply InBlock.miss; exact rfl)
    | apply W.seq
    | apply W.region
    | apply W.block
    | apply W.skip
    | apply W.ret
    | apply W.exit
    | (apply W.draw2 (id := 6) [0, 0, 3, 7, 0, 0, 48, 112, 255] [[0], [5], [17, 18], [19], [1], [5], [21, 22], [23], [20, 24]] 9 [(17, 1), (18, 32), (19, 393216), (20, 524288), (21, 2), (22, 32), (23, 6291456), (24, 8388608), (25, 17825792)] mixed (by kernel_rfl) rfl rfl)
    | ((first | apply U_ | apply Lex.u | (apply Lex.g; exact rfl; exact rfl) | (apply Lex.gq; exact rfl; exact rfl)); (first
    | exact QX.Move TYok
    | exact QX.Asg TYok
    | exact QX.Ld TYok
    | exact QX.Bin TYok
    | exact QX.Len TYok
    | exact QX.Idx TYok); exact rfl)
    | (refine W.condA (ht := fun hb => ?_) (hf := fun hb => ?_) <;> (try simp at hb) <;> (try (exfalso; omega))))
  · have e : decide (a = b) = false := decide_eq_false (by intro e; subst e; simp at hb)
    rw [e]
    exact Fin.ret ResL.auto
  have hl : a.length = b.length := by omega
  apply W.loopP (σ := Nat) 26 [0, 1] (fun k => k ≤ a.length ∧ a.take k = b.take k) (fun k => [(5, vI k)]) (fun _ => []) (fun k => a.length - k) (0)
  case hp => repeat (first | exact Pick.nil | apply Pick.cons rfl)
  case h0 =>
    refine ⟨by simp, ?_⟩
    exact Le.auto
  case round =>
    rintro k ⟨h1, h2⟩
    apply W.norm (by repeat (first | exact App.nil | apply App.cons))
    by_cases hk : k < a.length
    · repeat' (first
        | apply RG.nil
        | apply Lex.nil
        | apply Then.n
        | apply Then.r
        | apply Then.x
        | apply InBlock.n
        | apply InBlock.r
        | apply InBlock.hit
        | (apply InBlock.miss; exact rfl)
        | apply W.seq
        | apply W.region
        | apply W.block
        | apply W.skip
        | apply W.ret
        | apply W.exit
        | (apply W.draw2 (id := 6) [0, 0, 3, 7, 0, 0, 48, 112, 255] [[0], [5], [17, 18], [19], [1], [5], [21, 22], [23], [20, 24]] 9 [(17, 1), (18, 32), (19, 393216), (20, 524288), (21, 2), (22, 32), (23, 6291456), (24, 8388608), (25, 17825792)] mixed (by kernel_rfl) rfl rfl)
        | ((first | apply U_ | apply Lex.u | (apply Lex.g; exact rfl; exact rfl) | (apply Lex.gq; exact rfl; exact rfl)); (first
    | exact QX.Move TYok
    | exact QX.Asg TYok
    | exact QX.Ld TYok
    | exact QX.Bin TYok
    | exact QX.Len TYok
    | exact QX.Idx TYok); exact rfl)
        | (refine W.condA (ht := fun hb => ?_) (hf := fun hb => ?_) <;> (try simp at hb) <;> (try (exfalso; omega))))
      · have e : decide (a = b) = false := decide_eq_false (by intro e; subst e; exact hb rfl)
        rw [e]
        exact Fin.ret ResL.auto
      · refine ⟨k + 1, ⟨by omega, ?_⟩, ?_, ?_⟩
        · rw [take_nth hk, take_nth (by omega), h2, hb]
        · exact Le.auto
        · (try simp only); omega
    · obtain rfl : k = a.length := by omega
      have e : a = b := by
        rw [List.take_length, List.take_of_length_le (by omega)] at h2; exact h2
      repeat' (first
        | apply RG.nil
        | apply Lex.nil
        | apply Then.n
        | apply Then.r
        | apply Then.x
        | apply InBlock.n
        | apply InBlock.r
        | apply InBlock.hit
        | (apply InBlock.miss; exact rfl)
        | apply W.seq
        | apply W.region
        | apply W.block
        | apply W.skip
        | apply W.ret
        | apply W.exit
        | (apply W.draw2 (id := 6) [0, 0, 3, 7, 0, 0, 48, 112, 255] [[0], [5], [17, 18], [19], [1], [5], [21, 22], [23], [20, 24]] 9 [(17, 1), (18, 32), (19, 393216), (20, 524288), (21, 2), (22, 32), (23, 6291456), (24, 8388608), (25, 17825792)] mixed (by kernel_rfl) rfl rfl)
        | ((first | apply U_ | apply Lex.u | (apply Lex.g; exact rfl; exact rfl) | (apply Lex.gq; exact rfl; exact rfl)); (first
    | exact QX.Move TYok
    | exact QX.Asg TYok
    | exact QX.Ld TYok
    | exact QX.Bin TYok
    | exact QX.Len TYok
    | exact QX.Idx TYok); exact rfl)
        | (refine W.condA (ht := fun hb => ?_) (hf := fun hb => ?_) <;> (try simp at hb) <;> (try (exfalso; omega))))
      rw [decide_eq_true e]
      exact Fin.ret ResL.auto
theorem odd_v3 {t : List Int} {days : Int} (h : tokF days t = true) : V3 t := by
  rw [tokF, Bool.and_eq_true, Bool.not_eq_true'] at h
  intro x hx
  have := List.any_eq_false.1 h.2 x hx
  simp [oddF] at this
  omega
theorem rfit_ok (e : Exp) (ts : List (List Int)) (days : Int) (he : OkE e) (hc : (listF e).length ≤ 1000000) (ht : ts.length ≤ 1000000) (hts : ∀ t ∈ ts, t.length ≤ 1000000) : ACalls Try.prog 28 [aE e, slR ts, cI days] (.pv (cB (fitF e ts days))) := by
  have h1 := rrightExp_ok e he
  cases hr : rightF 12 e with
  | false =>
    rw [hr] at h1
    have e0 : fitF e ts days = false := by simp [fitF, hr]
    rw [e0]
    refine ACalls.of_W (qs := [cB false]) [6] 71 Try.func28 (by kernel_rfl) rfl rfl rfl fun G => ?_
    refine W.initA (hw := ?_)
    repeat' (first
      | apply RG.nil
      | apply Lex.nil
      | apply Then.n
      | apply Then.r
      | apply Then.x
      | apply InBlock.n
      | apply InBlock.r
      | apply InBlock.hit
      | (apply InBlock.miss; exact rfl)
      | apply W.seq
      | apply W.region
      | apply W.block
      | apply W.skip
      | apply W.ret
      | apply W.exit
      | ((first | apply U_ | (apply Ug_; exact rfl; exact rfl) | (apply Ugq_; exact rfl; exact rfl)); (first
    | exact QX.Move TYok
    | exact QX.Asg TYok
    | exact QX.Ld TYok
    | exact QX.Bin TYok
    | exact QX.Pick TYok
    | exact QX.Un TYok
    | exact QX.Len TYok
    | exact QX.Idx TYok
    | (apply Q_calld (h1); exact EvD.auto)); exact rfl)
      | refine SX.Box TYok (h := ?_)
      | (apply RG.gT; exact rfl; exact rfl; (first | assumption | decide))
      | (apply RG.gF; exact rfl; exact rfl; (first | assumption | decide | (rw [ne_eq, Bool.not_eq_true]; assumption) | (rw [ne_eq, Bool.not_eq_false]; assumption)); exact rfl)
      | (refine W.condA (ht := fun hb => ?_) (hf := fun hb => ?_) <;> (try simp at hb) <;> (try (exfalso; omega))))
    exact Fin.ret ResL.auto
  | true =>
    rw [hr] at h1
    have h2 := list_ok e he hc
    by_cases hd : 0 ≤ days ∧ days ≤ 1000
    case neg =>
      have e0 : fitF e ts days = false := by
        rw [← Bool.not_eq_true]; intro hx
        simp only [fitF, Bool.and_eq_true, decide_eq_true_iff] at hx
        exact hd ⟨hx.1.1.1.1.2, hx.1.1.1.2⟩
      rw [e0]
      refine ACalls.of_W (qs := [cB false]) [6] 71 Try.func28 (by kernel_rfl) rfl rfl rfl fun G => ?_
      refine W.initA (hw := ?_)
      repeat' (first
        | apply RG.nil
        | apply Lex.nil
        | apply Then.n
        | apply Then.r
        | apply Then.x
        | apply InBlock.n
        | apply InBlock.r
        | apply InBlock.hit
        | (apply InBlock.miss; exact rfl)
        | apply W.seq
        | apply W.region
        | apply W.block
        | apply W.skip
        | apply W.ret
        | apply W.exit
        | ((first | apply U_ | (apply Ug_; exact rfl; exact rfl) | (apply Ugq_; exact rfl; exact rfl)); (first
    | exact QX.Move TYok
    | exact QX.Asg TYok
    | exact QX.Ld TYok
    | exact QX.Bin TYok
    | exact QX.Pick TYok
    | exact QX.Un TYok
    | exact QX.Len TYok
    | exact QX.Idx TYok
    | (apply Q_calld (h1); exact EvD.auto)); exact rfl)
        | refine SX.Box TYok (h := ?_)
        | (apply RG.gT; exact rfl; exact rfl; (first | assumption | decide))
        | (apply RG.gF; exact rfl; exact rfl; (first | assumption | decide | (rw [ne_eq, Bool.not_eq_true]; assumption) | (rw [ne_eq, Bool.not_eq_false]; assumption)); exact rfl)
        | (refine W.condA (ht := fun hb => ?_) (hf := fun hb => ?_) <;> (try simp at hb) <;> (try (exfalso; omega))))
      exact Fin.ret ResL.auto
    by_cases hl : (listF e).length = ts.length
    case neg =>
      have e0 : fitF e ts days = false := by
        rw [← Bool.not_eq_true]; intro hx
        simp only [fitF, Bool.and_eq_true, decide_eq_true_iff] at hx
        exact hl hx.1.2
      rw [e0]
      refine ACalls.of_W (qs := [cB false]) [6] 71 Try.func28 (by kernel_rfl) rfl rfl rfl fun G => ?_
      refine W.initA (hw := ?_)
      repeat' (first
        | apply RG.nil
        | apply Lex.nil
        | apply Then.n
        | apply Then.r
        | apply Then.x
        | apply InBlock.n
        | apply InBlock.r
        | apply InBlock.hit
        | (apply InBlock.miss; exact rfl)
        | apply W.seq
        | apply W.region
        | apply W.block
        | apply W.skip
        | apply W.ret
        | apply W.exit
        | ((first | apply U_ | (apply Ug_; exact rfl; exact rfl) | (apply Ugq_; exact rfl; exact rfl)); (first
    | exact QX.Move TYok
    | exact QX.Asg TYok
    | exact QX.Ld TYok
    | exact QX.Bin TYok
    | exact QX.Pick TYok
    | exact QX.Un TYok
    | exact QX.Len TYok
    | exact QX.Idx TYok
    | (apply Q_calld (h1); exact EvD.auto)
    | (apply Q_calld (h2); exact EvD.auto)); exact rfl)
        | refine SX.Box TYok (h := ?_)
        | (apply RG.gT; exact rfl; exact rfl; (first | assumption | decide))
        | (apply RG.gF; exact rfl; exact rfl; (first | assumption | decide | (rw [ne_eq, Bool.not_eq_true]; assumption) | (rw [ne_eq, Bool.not_eq_false]; assumption)); exact rfl)
        | (refine W.condA (ht := fun hb => ?_) (hf := fun hb => ?_) <;> (try simp at hb) <;> (try (exfalso; omega))))
      exact Fin.ret ResL.auto
    have e0 : fitF e ts days = (!((listF e).any timedF) && ts.all (tokF days)) := by
      simp [fitF, hr, hd, hl]
    rw [e0]
    refine ACalls.of_W (qs := [cB (!((listF e).any timedF) && ts.all (tokF days))]) [6] 71 Try.func28 (by kernel_rfl) rfl rfl rfl fun G => ?_
    refine W.initA (hw := ?_)
    repeat' (first
      | apply RG.nil
      | apply Lex.nil
      | apply Then.n
      | apply Then.r
      | apply Then.x
      | apply InBlock.n
      | apply InBlock.r
      | apply InBlock.hit
      | (apply InBlock.miss; exact rfl)
      | apply W.seq
      | apply W.region
      | apply W.block
      | apply W.skip
      | apply W.ret
      | apply W.exit
      | ((first | apply U_ | (apply Ug_; exact rfl; exact rfl) | (apply Ugq_; exact rfl; exact rfl)); (first
    | exact QX.Move TYok
    | exact QX.Asg TYok
    | exact QX.Ld TYok
    | exact QX.Bin TYok
    | exact QX.Pick TYok
    | exact QX.Un TYok
    | exact QX.Len TYok
    | exact QX.Idx TYok
    | (apply Q_calld (h1); exact EvD.auto)
    | (apply Q_calld (h2); exact EvD.auto)); exact rfl)
      | refine SX.Box TYok (h := ?_)
      | (apply RG.gT; exact rfl; exact rfl; (first | assumption | decide))
      | (apply RG.gF; exact rfl; exact rfl; (first | assumption | decide | (rw [ne_eq, Bool.not_eq_true]; assumption) | (rw [ne_eq, Bool.not_eq_false]; assumption)); exact rfl)
      | (refine W.condA (ht := fun hb => ?_) (hf := fun hb => ?_) <;> (try simp at hb) <;> (try (exfalso; omega))))
    apply W.loopP (σ := Nat) 71 [1, 2, 7] (fun k => k ≤ ts.length ∧ ((listF e).take k).any timedF = false ∧ (ts.take k).all (tokF days) = true) (fun k => [(8, vI k)]) (fun _ => []) (fun k => ts.length - k) (0)
    case hp => repeat (first | exact Pick.nil | apply Pick.cons rfl)
    case h0 =>
      refine ⟨by simp, ?_⟩
      exact Le.auto
    case round =>
      rintro k ⟨k1, k2, k3⟩
      apply W.norm (by repeat (first | exact App.nil | apply App.cons))
      by_cases hk : k < ts.length
      · have h3 := rtimed_ok (nth (listF e) k) (ok_atom e he _ (nth_mem (by omega)))
        have htk := hts _ (nth_mem hk)
        have htk' : (nth ts ((k : Nat) : Int).toNat).length ≤ 1000000 := htk
        repeat' (first
          | apply RG.nil
          | apply Lex.nil
          | apply Then.n
          | apply Then.r
          | apply Then.x
          | apply InBlock.n
          | apply InBlock.r
          | apply InBlock.hit
          | (apply InBlock.miss; exact rfl)
          | apply W.seq
          | apply W.region
          | apply W.block
          | apply W.skip
          | apply W.ret
          | apply W.exit
          | ((first | apply U_ | (apply Ug_; exact rfl; exact rfl) | (apply Ugq_; exact rfl; exact rfl)); (first
    | exact QX.Move TYok
    | exact QX.Asg TYok
    | exact QX.Ld TYok
    | exact QX.Bin TYok
    | exact QX.Pick TYok
    | exact QX.Un TYok
    | exact QX.Len TYok
    | exact QX.Idx TYok
    | (apply Q_call (h3); exact EvL.auto; exact rfl)); exact rfl)
          | refine SX.Box TYok (h := ?_)
          | (apply RG.gT; exact rfl; exact rfl; (first | assumption | decide))
          | (apply RG.gF; exact rfl; exact rfl; (first | assumption | decide | (rw [ne_eq, Bool.not_eq_true]; assumption) | (rw [ne_eq, Bool.not_eq_false]; assumption)); exact rfl)
          | (refine W.condA (ht := fun hb => ?_) (hf := fun hb => ?_) <;> (try simp at hb) <;> (try (exfalso; omega))))
        · have e1 : (!((listF e).any timedF) && ts.all (tokF days)) = false := by
            rw [← Bool.not_eq_true]; intro hx
            simp only [Bool.and_eq_true, Bool.not_eq_true', List.any_eq_false, List.all_eq_true] at hx
            rcases hb with hb | hb
            · exact hx.1 _ (nth_mem (by omega)) hb
            · have := hx.2 _ (nth_mem hk)
              rw [tokF, Bool.and_eq_true, decide_eq_true_iff] at this
              exact hb this.1
          rw [e1]
          exact Fin.ret ResL.auto
        · have hq : ((nth ts k).length : Int) = days := hb.2
          have hq' : ((nth ts ((k : Nat) : Int).toNat).length : Int) = days := hb.2
          have hti : timedF (nth (listF e) k) = false := hb.1
          apply W.loopP (σ := Nat) 71 [1, 2, 7, 8] (fun j => j ≤ (nth ts k).length ∧ ((nth ts k).take j).any oddF = false) (fun j => [(9, vI j)]) (fun _ => []) (fun j => (nth ts k).length - j) (0)
          case hp => repeat (first | exact Pick.nil | apply Pick.cons rfl)
          case h0 =>
            refine ⟨by simp, ?_⟩
            exact Le.auto
          case round =>
            rintro j ⟨j1, j2⟩
            apply W.norm (by repeat (first | exact App.nil | apply App.cons))
            by_cases hj : j < (nth ts k).length
            · repeat' (first
                | apply RG.nil
                | apply Lex.nil
                | apply Then.n
                | apply Then.r
                | apply Then.x
                | apply InBlock.n
                | apply InBlock.r
                | apply InBlock.hit
                | (apply InBlock.miss; exact rfl)
                | apply W.seq
                | apply W.region
                | apply W.block
                | apply W.skip
                | apply W.ret
                | apply W.exit
                | ((first | apply U_ | (apply Ug_; exact rfl; exact rfl) | (apply Ugq_; exact rfl; exact rfl)); (first
    | exact QX.Move TYok
    | exact QX.Asg TYok
    | exact QX.Ld TYok
    | exact QX.Bin TYok
    | exact QX.Pick TYok
    | exact QX.Un TYok
    | exact QX.Len TYok
    | exact QX.Idx TYok); exact rfl)
                | refine SX.Box TYok (h := ?_)
                | (apply RG.gT; exact rfl; exact rfl; (first | assumption | decide))
                | (apply RG.gF; exact rfl; exact rfl; (first | assumption | decide | (rw [ne_eq, Bool.not_eq_true]; assumption) | (rw [ne_eq, Bool.not_eq_false]; assumption)); exact rfl)
                | (refine W.condA (ht := fun hb => ?_) (hf := fun hb => ?_) <;> (try simp at hb) <;> (try (exfalso; omega))))
              · have e1 : (!((listF e).any timedF) && ts.all (tokF days)) = false := by
                  rw [← Bool.not_eq_true]; intro hx
                  simp only [Bool.and_eq_true, Bool.not_eq_true', List.all_eq_true] at hx
                  have := odd_v3 (hx.2 _ (nth_mem hk)) _ (nth_mem hj)
                  have hb' : nth (nth ts k) j < 0 ∨ 2 < nth (nth ts k) j := hb
                  omega
                rw [e1]
                exact Fin.ret ResL.auto
              · refine ⟨j + 1, ⟨by omega, ?_⟩, ?_, ?_⟩
                · rw [any_take hj, j2, Bool.false_or]
                  have hb' : 0 ≤ nth (nth ts k) j ∧ nth (nth ts k) j ≤ 2 := hb
                  simp [oddF]; omega
                · exact Le.auto
                · (try simp only); omega
            · obtain rfl : j = (nth ts k).length := by omega
              rw [List.take_length] at j2
              repeat' (first
                | apply RG.nil
                | apply Lex.nil
                | apply Then.n
                | apply Then.r
                | apply Then.x
                | apply InBlock.n
                | apply InBlock.r
                | apply InBlock.hit
                | (apply InBlock.miss; exact rfl)
                | apply W.seq
                | apply W.region
                | apply W.block
                | apply W.skip
                | apply W.ret
                | apply W.exit
                | ((first | apply U_ | (apply Ug_; exact rfl; exact rfl) | (apply Ugq_; exact rfl; exact rfl)); (first
    | exact QX.Move TYok
    | exact QX.Asg TYok
    | exact QX.Ld TYok
    | exact QX.Bin TYok
    | exact QX.Pick TYok
    | exact QX.Un TYok
    | exact QX.Len TYok
    | exact QX.Idx TYok); exact rfl)
                | refine SX.Box TYok (h := ?_)
                | (apply RG.gT; exact rfl; exact rfl; (first | assumption | decide))
                | (apply RG.gF; exact rfl; exact rfl; (first | assumption | decide | (rw [ne_eq, Bool.not_eq_true]; assumption) | (rw [ne_eq, Bool.not_eq_false]; assumption)); exact rfl)
                | (refine W.condA (ht := fun hb => ?_) (hf := fun hb => ?_) <;> (try simp at hb) <;> (try (exfalso; omega))))
              refine ⟨k + 1, ⟨by omega, ?_, ?_⟩, ?_, ?_⟩
              · rw [any_take (by omega), k2, hti]; rfl
              · rw [all_take hk, k3, tokF, j2, decide_eq_true hq]; rfl
              · exact Le.auto
              · (try simp only); omega
      · obtain rfl : k = ts.length := by omega
        rw [List.take_length] at k3
        rw [← hl, List.take_length] at k2
        repeat' (first
          | apply RG.nil
          | apply Lex.nil
          | apply Then.n
          | apply Then.r
          | apply Then.x
          | apply InBlock.n
          | apply InBlock.r
          | apply InBlock.hit
          | (apply InBlock.miss; exact rfl)
          | apply W.seq
          | apply W.region
          | apply W.block
          | apply W.skip
          | apply W.ret
          | apply W.exit
          | ((first | apply U_ | (apply Ug_; exact rfl; exact rfl) | (apply Ugq_; exact rfl; exact rfl)); (first
    | exact QX.Move TYok
    | exact QX.Asg TYok
    | exact QX.Ld TYok
    | exact QX.Bin TYok
    | exact QX.Pick TYok
    | exact QX.Un TYok
    | exact QX.Len TYok
    | exact QX.Idx TYok); exact rfl)
          | refine SX.Box TYok (h := ?_)
          | (apply RG.gT; exact rfl; exact rfl; (first | assumption | decide))
          | (apply RG.gF; exact rfl; exact rfl; (first | assumption | decide | (rw [ne_eq, Bool.not_eq_true]; assumption) | (rw [ne_eq, Bool.not_eq_false]; assumption)); exact rfl)
          | (refine W.condA (ht := fun hb => ?_) (hf := fun hb => ?_) <;> (try simp at hb) <;> (try (exfalso; omega))))
        rw [k2, k3]
        exact Fin.ret ResL.auto
theorem rrun_ok (e : Exp) (ts : List (List Int)) (days : Int) (he : OkE e) (hc : (listF e).length ≤ 1000000) (ht : ts.length ≤ 1000000) (hts : ∀ t ∈ ts, t.length ≤ 1000000) : ACalls Try.prog 11 [aE e, slR ts, cI days] (pairI (runF e ts days)) := by
  have h1 := rfit_ok e ts days he hc ht hts
  by_cases hg : fitF e ts days = true
  · rw [runF, if_pos hg]
    rw [hg] at h1
    rw [fitF] at hg
    simp only [Bool.and_eq_true, decide_eq_true_iff, Bool.not_eq_true'] at hg
    obtain ⟨⟨⟨⟨⟨g1, g2⟩, g3⟩, g4⟩, g5⟩, g6⟩ := hg
    have h2 := play_ok 12 e ts days g1 he g2 g3 (fit_rows (e := e) g6) (fun r hr => odd_v3 (List.all_eq_true.1 g6 r hr)) ht (by omega)
    refine ACalls.of_W (qs := [slI (nodeF days e ts), cI 0]) [6, 7] 17 Try.func11 (by kernel_rfl) rfl rfl rfl fun G => ?_
    refine W.initA (hw := ?_)
    repeat' (first
      | apply RG.nil
      | apply Lex.nil
      | apply Then.n
      | apply Then.r
      | apply Then.x
      | apply InBlock.n
      | apply InBlock.r
      | apply InBlock.hit
      | (apply InBlock.miss; exact rfl)
      | apply W.seq
      | apply W.region
      | apply W.block
      | apply W.skip
      | apply W.ret
      | apply W.exit
      | ((first | apply U_); (first
    | exact QX.Move TYok
    | exact QX.Asg TYok
    | exact QX.Ld TYok
    | exact QX.Un TYok
    | (apply Q_calld (h1); exact EvD.auto)
    | (apply Q_calld (h2); exact EvD.auto)); exact rfl)
      | refine SX.Box TYok (h := ?_)
      | (refine W.condA (ht := fun hb => ?_) (hf := fun hb => ?_) <;> (try simp at hb) <;> (try (exfalso; omega))))
    exact Fin.ret ResL.auto
  · rw [runF, if_neg hg]
    rw [(Bool.not_eq_true _).mp hg] at h1
    refine ACalls.of_W (qs := [slI [], cI 1]) [6, 7] 17 Try.func11 (by kernel_rfl) rfl rfl rfl fun G => ?_
    refine W.initA (hw := ?_)
    repeat' (first
      | apply RG.nil
      | apply Lex.nil
      | apply Then.n
      | apply Then.r
      | apply Then.x
      | apply InBlock.n
      | apply InBlock.r
      | apply InBlock.hit
      | (apply InBlock.miss; exact rfl)
      | apply W.seq
      | apply W.region
      | apply W.block
      | apply W.skip
      | apply W.ret
      | apply W.exit
      | ((first | apply U_); (first
    | exact QX.Move TYok
    | exact QX.Asg TYok
    | exact QX.Ld TYok
    | exact QX.Un TYok
    | (apply Q_calld (h1); exact EvD.auto)); exact rfl)
      | refine SX.Box TYok (h := ?_)
      | (refine W.condA (ht := fun hb => ?_) (hf := fun hb => ?_) <;> (try simp at hb) <;> (try (exfalso; omega))))
    exact Fin.ret ResL.auto
end Go.Proofs.Ytacilhkipekjlaa
