/-
  Right expressions: the reference's
-/
import Derived.Test.YtionjeodcmnneaaWalk3
set_option linter.unusedVariables false
set_option linter.unusedSimpArgs false
set_option maxHeartbeats 8000000
namespace Go.Proofs.Ytionjeodcmnneaa
open Lf Go
attribute [local irreducible] PureOp EffOp Ev RG W Then InBlock Lf.Fin nth App InitE Pick SubE SubF SubG EvL EvD EvP EvR ResL Lf.Lex SubR SubBR RA RAll EvC FinO FinM ResM FinB ResD

theorem within_ok (a b c : Int) : ACalls Try.prog 45 [cI a, cI b, cI c] (.pv (cB (inF b c a))) := by
  refine ACalls.of_W (qs := [cB (inF b c a)]) [6] 15 Try.func45 (by kernel_rfl) rfl rfl rfl fun G => ?_
  refine W.initA (hw := ?_)
  repeat' (first
    | apply RG.nil
    | apply Lex.nil
    | apply Then.n
    | apply Then.r
    | apply Then.x
    | apply InBlock.n
    | apply InBlock.r
    | apply InBlock.hit
    | (apply InBlock.miss; exact rfl)
    | apply W.seq
    | apply W.region
    | apply W.block
    | apply W.skip
    | apply W.ret
    | apply W.exit
    | ((first | apply U_ | (apply Ug_; exact rfl; exact rfl) | (apply Ugq_; exact rfl; exact rfl)); (first
    | exact QX.Move TYok
    | exact QX.Asg TYok
    | exact QX.Bin TYok
    | exact QX.Pick TYok); exact rfl)
    | (apply RG.gT; exact rfl; exact rfl; (first | assumption | decide))
    | (apply RG.gF; exact rfl; exact rfl; (first | assumption | decide | (rw [ne_eq, Bool.not_eq_true]; assumption) | (rw [ne_eq, Bool.not_eq_false]; assumption)); exact rfl)
    | (refine W.condA (ht := fun hb => ?_) (hf := fun hb => ?_) <;> (try simp at hb) <;> (try (exfalso; omega))))
  exact Fin.ret ResL.auto
theorem all_take {α : Type} [Inhabited α] {l : List α} {p : α → Bool} {k : Nat} (h : k < l.length) : (l.take (k + 1)).all p = ((l.take k).all p && p (nth l k)) := by
  rw [take_nth h]; simp
theorem rrightC {op : Int} (h : op = 16 ∨ op = 17 ∨ op = 18) {d : Nat} {n u : Int} {s : Str} {l : List Exp} (hs : s.length ≤ 9223372036854775807) (hl : l.length ≤ 9223372036854775807) (hdb : (d : Int) ≤ 100)
    (ih : ∀ x ∈ l, ACalls Try.prog 65 [aE x, cI (((d + 1 : Nat) : Int) - 1)] (.pv (cB (rightF d x)))) : ACalls Try.prog 65 [.agg [.int .i64 op, .int .i64 n, .int .i64 u, .str s, .sl (l.map encX)], cI ((d + 1 : Nat) : Int)] (.pv (cB (decide ((l.length : Int) = 1) && decide (u = 0) && inF 1 1000 n && (l.all (rightF d) && decide (s = E0))))) := by
  refine ACalls.of_W (qs := [cB (decide ((l.length : Int) = 1) && decide (u = 0) && inF 1 1000 n && (l.all (rightF d) && decide (s = E0)))]) [4] 149 Try.func65 (by kernel_rfl) rfl rfl rfl fun G => ?_
  refine W.initA (hw := ?_)
  repeat' (first
    | apply RG.nil
    | apply Lex.nil
    | apply Then.n
    | apply Then.r
    | apply Then.x
    | apply InBlock.n
    | apply InBlock.r
    | apply InBlock.hit
    | (apply InBlock.miss; exact rfl)
    | apply W.seq
    | apply W.region
    | apply W.block
    | apply W.skip
    | apply W.ret
    | apply W.exit
    | ((first | apply U_ | (apply Ug_; exact rfl; exact rfl) | (apply Ugq_; exact rfl; exact rfl)); (first
    | exact QX.Move TYok
    | exact QX.Asg TYok
    | exact QX.Fld TYok
    | exact QX.Ld TYok
    | exact QX.Bin TYok
    | exact QX.Pick TYok
    | exact QX.Un TYok
    | exact QX.Len TYok
    | exact QX.Idx TYok
    | (apply Q_call (within_ok n 1 1000); exact EvL.auto; exact rfl)); exact rfl)
    | refine SX.Box TYok (h := ?_)
    | (apply S_isnil TYok; exact rfl; exact rfl; exact rfl; exact Ev.auto; intro bn hnil)
    | (apply RG.gT; exact rfl; exact rfl; (first | assumption | decide))
    | (apply RG.gF; exact rfl; exact rfl; (first | assumption | decide | (rw [ne_eq, Bool.not_eq_true]; assumption) | (rw [ne_eq, Bool.not_eq_false]; assumption)); exact rfl)
    | (refine W.condA (ht := fun hb => ?_) (hf := fun hb => ?_) <;> (try simp at hb) <;> (try (exfalso; omega))))
  · have e : (decide ((l.length : Int) = 1) && decide (u = 0) && inF 1 1000 n && (l.all (rightF d) && decide (s = E0))) = false := by
      rw [Bool.eq_false_iff]; intro hx; simp only [Bool.and_eq_true, decide_eq_true_eq] at hx
      obtain ⟨⟨⟨hx1, hx2⟩, hx3⟩, hx4⟩ := hx
      rw [hx3] at hb; simp [hx1, hx2] at hb; try omega
    rw [e]
    exact Fin.ret ResL.auto
  have g : decide ((l.length : Int) = 1) = true ∧ decide (u = 0) = true ∧ inF 1 1000 n = true := by
    have hq := ‹(((l.length : Int) = 1 ∧ (¬op = 0 → u = 0)) ∧ _) ∧ _›
    have hq2 : inF 1 1000 n = true := hq.2 (by omega)
    have hq1 := hq.1.1.1
    have hq3 := hq.1.1.2 (by omega)
    simp [hq1, hq2, hq3]
  rw [g.1, g.2.1, g.2.2, Bool.true_and, Bool.true_and, Bool.true_and]
  apply W.loopP (σ := Nat) 149 [1, 2] (fun k => k ≤ l.length ∧ (l.take k).all (rightF d) = true) (fun k => [(8, vI k)]) (fun _ => [(2, ⟨35, 5, [[.int .i64 op, .int .i64 n, .int .i64 u, .str s, .sl (l.map encX)]]⟩)]) (fun k => l.length - k) (0)
  case hp => repeat (first | exact Pick.nil | apply Pick.cons rfl)
  case h0 =>
    refine ⟨by simp, ?_⟩
    exact Le.auto
  case round =>
    rintro k ⟨h1, h2⟩
    apply W.norm (by repeat (first | exact App.nil | apply App.cons))
    by_cases hk : k < l.length
    · repeat' (first
        | apply RG.nil
        | apply Lex.nil
        | apply Then.n
        | apply Then.r
        | apply Then.x
        | apply InBlock.n
        | apply InBlock.r
        | apply InBlock.hit
        | (apply InBlock.miss; exact rfl)
        | apply W.seq
        | apply W.region
        | apply W.block
        | apply W.skip
        | apply W.ret
        | apply W.exit
        | ((first | apply U_ | (apply Ug_; exact rfl; exact rfl) | (apply Ugq_; exact rfl; exact rfl)); (first
    | exact QX.Move TYok
    | exact QX.Asg TYok
    | exact QX.Fld TYok
    | exact QX.Ld TYok
    | exact QX.Bin TYok
    | exact QX.Pick TYok
    | exact QX.Un TYok
    | exact QX.Len TYok
    | exact QX.Idx TYok
    | (apply Q_call (ih (nth l k) (nth_mem hk)); exact EvL.auto; exact rfl)); exact rfl)
        | refine SX.Box TYok (h := ?_)
        | (apply S_isnil TYok; exact rfl; exact rfl; exact rfl; exact Ev.auto; intro bn hnil)
        | (apply RG.gT; exact rfl; exact rfl; (first | assumption | decide))
        | (apply RG.gF; exact rfl; exact rfl; (first | assumption | decide | (rw [ne_eq, Bool.not_eq_true]; assumption) | (rw [ne_eq, Bool.not_eq_false]; assumption)); exact rfl)
        | (refine W.condA (ht := fun hb => ?_) (hf := fun hb => ?_) <;> (try simp at hb) <;> (try (exfalso; omega))))
      · have e : l.all (rightF d) = false := by
          rw [← Bool.not_eq_true, List.all_eq_true]; intro hx; rw [hx _ (nth_mem hk)] at hb; cases hb
        rw [e]
        exact Fin.ret ResL.auto
      · refine ⟨k + 1, ⟨by omega, ?_⟩, ?_, ?_⟩
        · rw [all_take hk, h2, hb]; rfl
        · exact Le.auto
        · (try simp only); omega
    · obtain rfl : k = l.length := by omega
      rw [List.take_length] at h2
      repeat' (first
        | apply RG.nil
        | apply Lex.nil
        | apply Then.n
        | apply Then.r
        | apply Then.x
        | apply InBlock.n
        | apply InBlock.r
        | apply InBlock.hit
        | (apply InBlock.miss; exact rfl)
        | apply W.seq
        | apply W.region
        | apply W.block
        | apply W.skip
        | apply W.ret
        | apply W.exit
        | ((first | apply U_ | (apply Ug_; exact rfl; exact rfl) | (apply Ugq_; exact rfl; exact rfl)); (first
    | exact QX.Move TYok
    | exact QX.Asg TYok
    | exact QX.Fld TYok
    | exact QX.Ld TYok
    | exact QX.Bin TYok
    | exact QX.Pick TYok
    | exact QX.Un TYok
    | exact QX.Len TYok
    | exact QX.Idx TYok); exact rfl)
        | refine SX.Box TYok (h := ?_)
        | (apply S_isnil TYok; exact rfl; exact rfl; exact rfl; exact Ev.auto; intro bn hnil)
        | (apply RG.gT; exact rfl; exact rfl; (first | assumption | decide))
        | (apply RG.gF; exact rfl; exact rfl; (first | assumption | decide | (rw [ne_eq, Bool.not_eq_true]; assumption) | (rw [ne_eq, Bool.not_eq_false]; assumption)); exact rfl)
        | (refine W.condA (ht := fun hb => ?_) (hf := fun hb => ?_) <;> (try simp at hb) <;> (try (exfalso; omega))))
      rw [h2]
      exact Fin.ret ResL.auto
theorem rrightD {op : Int} (h : op = 12) {d : Nat} {n u : Int} {s : Str} {l : List Exp} (hs : s.length ≤ 9223372036854775807) (hl : l.length ≤ 9223372036854775807) (hdb : (d : Int) ≤ 100)
    (ih : ∀ x ∈ l, ACalls Try.prog 65 [aE x, cI (((d + 1 : Nat) : Int) - 1)] (.pv (cB (rightF d x)))) : ACalls Try.prog 65 [.agg [.int .i64 op, .int .i64 n, .int .i64 u, .str s, .sl (l.map encX)], cI ((d + 1 : Nat) : Int)] (.pv (cB (decide ((l.length : Int) = 1) && decide (u = 0) && decide (n = 0) && (l.all (rightF d) && decide (s = E0))))) := by
  refine ACalls.of_W (qs := [cB (decide ((l.length : Int) = 1) && decide (u = 0) && decide (n = 0) && (l.all (rightF d) && decide (s = E0)))]) [4] 149 Try.func65 (by kernel_rfl) rfl rfl rfl fun G => ?_
  refine W.initA (hw := ?_)
  repeat' (first
    | apply RG.nil
    | apply Lex.nil
    | apply Then.n
    | apply Then.r
    | apply Then.x
    | apply InBlock.n
    | apply InBlock.r
    | apply InBlock.hit
    | (apply InBlock.miss; exact rfl)
    | apply W.seq
    | apply W.region
    | apply W.block
    | apply W.skip
    | apply W.ret
    | apply W.exit
    | ((first | apply U_ | (apply Ug_; exact rfl; exact rfl) | (apply Ugq_; exact rfl; exact rfl)); (first
    | exact QX.Move TYok
    | exact QX.Asg TYok
    | exact QX.Fld TYok
    | exact QX.Ld TYok
    | exact QX.Bin TYok
    | exact QX.Pick TYok
    | exact QX.Un TYok
    | exact QX.Len TYok
    | exact QX.Idx TYok
    | (apply Q_call (within_ok n 1 1000); exact EvL.auto; exact rfl)); exact rfl)
    | refine SX.Box TYok (h := ?_)
    | (apply S_isnil TYok; exact rfl; exact rfl; exact rfl; exact Ev.auto; intro bn hnil)
    | (apply RG.gT; exact rfl; exact rfl; (first | assumption | decide))
    | (apply RG.gF; exact rfl; exact rfl; (first | assumption | decide | (rw [ne_eq, Bool.not_eq_true]; assumption) | (rw [ne_eq, Bool.not_eq_false]; assumption)); exact rfl)
    | (refine W.condA (ht := fun hb => ?_) (hf := fun hb => ?_) <;> (try simp at hb) <;> (try (exfalso; omega))))
  · have e : (decide ((l.length : Int) = 1) && decide (u = 0) && decide (n = 0) && (l.all (rightF d) && decide (s = E0))) = false := by
      rw [Bool.eq_false_iff]; intro hx; simp only [Bool.and_eq_true, decide_eq_true_eq] at hx
      obtain ⟨⟨⟨hx1, hx2⟩, hx3⟩, hx4⟩ := hx
      rw [hx3] at hb; simp [hx1, hx2] at hb; try omega
    rw [e]
    exact Fin.ret ResL.auto
  have g : decide ((l.length : Int) = 1) = true ∧ decide (u = 0) = true ∧ decide (n = 0) = true := by
    have hq := ‹(((l.length : Int) = 1 ∧ (¬op = 0 → u = 0)) ∧ _) ∧ _›
    have hq2 : n = 0 := by have := hq.2; omega
    have hq1 := hq.1.1.1
    have hq3 := hq.1.1.2 (by omega)
    simp [hq1, hq2, hq3]
  rw [g.1, g.2.1, g.2.2, Bool.true_and, Bool.true_and, Bool.true_and]
  apply W.loopP (σ := Nat) 149 [1, 2] (fun k => k ≤ l.length ∧ (l.take k).all (rightF d) = true) (fun k => [(8, vI k)]) (fun _ => [(2, ⟨35, 5, [[.int .i64 op, .int .i64 n, .int .i64 u, .str s, .sl (l.map encX)]]⟩)]) (fun k => l.length - k) (0)
  case hp => repeat (first | exact Pick.nil | apply Pick.cons rfl)
  case h0 =>
    refine ⟨by simp, ?_⟩
    exact Le.auto
  case round =>
    rintro k ⟨h1, h2⟩
    apply W.norm (by repeat (first | exact App.nil | apply App.cons))
    by_cases hk : k < l.length
    · repeat' (first
        | apply RG.nil
        | apply Lex.nil
        | apply Then.n
        | apply Then.r
        | apply Then.x
        | apply InBlock.n
        | apply InBlock.r
        | apply InBlock.hit
        | (apply InBlock.miss; exact rfl)
        | apply W.seq
        | apply W.region
        | apply W.block
        | apply W.skip
        | apply W.ret
        | apply W.exit
        | ((first | apply U_ | (apply Ug_; exact rfl; exact rfl) | (apply Ugq_; exact rfl; exact rfl)); (first
    | exact QX.Move TYok
    | exact QX.Asg TYok
    | exact QX.Fld TYok
    | exact QX.Ld TYok
    | exact QX.Bin TYok
    | exact QX.Pick TYok
    | exact QX.Un TYok
    | exact QX.Len TYok
    | exact QX.Idx TYok
    | (apply Q_call (ih (nth l k) (nth_mem hk)); exact EvL.auto; exact rfl)); exact rfl)
        | refine SX.Box TYok (h := ?_)
        | (apply S_isnil TYok; exact rfl; exact rfl; exact rfl; exact Ev.auto; intro bn hnil)
        | (apply RG.gT; exact rfl; exact rfl; (first | assumption | decide))
        | (apply RG.gF; exact rfl; exact rfl; (first | assumption | decide | (rw [ne_eq, Bool.not_eq_true]; assumption) | (rw [ne_eq, Bool.not_eq_false]; assumption)); exact rfl)
        | (refine W.condA (ht := fun hb => ?_) (hf := fun hb => ?_) <;> (try simp at hb) <;> (try (exfalso; omega))))
      · have e : l.all (rightF d) = false := by
          rw [← Bool.not_eq_true, List.all_eq_true]; intro hx; rw [hx _ (nth_mem hk)] at hb; cases hb
        rw [e]
        exact Fin.ret ResL.auto
      · refine ⟨k + 1, ⟨by omega, ?_⟩, ?_, ?_⟩
        · rw [all_take hk, h2, hb]; rfl
        · exact Le.auto
        · (try simp only); omega
    · obtain rfl : k = l.length := by omega
      rw [List.take_length] at h2
      repeat' (first
        | apply RG.nil
        | apply Lex.nil
        | apply Then.n
        | apply Then.r
        | apply Then.x
        | apply InBlock.n
        | apply InBlock.r
        | apply InBlock.hit
        | (apply InBlock.miss; exact rfl)
        | apply W.seq
        | apply W.region
        | apply W.block
        | apply W.skip
        | apply W.ret
        | apply W.exit
        | ((first | apply U_ | (apply Ug_; exact rfl; exact rfl) | (apply Ugq_; exact rfl; exact rfl)); (first
    | exact QX.Move TYok
    | exact QX.Asg TYok
    | exact QX.Fld TYok
    | exact QX.Ld TYok
    | exact QX.Bin TYok
    | exact QX.Pick TYok
    | exact QX.Un TYok
    | exact QX.Len TYok
    | exact QX.Idx TYok); exact rfl)
        | refine SX.Box TYok (h := ?_)
        | (apply S_isnil TYok; exact rfl; exact rfl; exact rfl; exact Ev.auto; intro bn hnil)
        | (apply RG.gT; exact rfl; exact rfl; (first | assumption | decide))
        | (apply RG.gF; exact rfl; exact rfl; (first | assumption | decide | (rw [ne_eq, Bool.not_eq_true]; assumption) | (rw [ne_eq, Bool.not_eq_false]; assumption)); exact rfl)
        | (refine W.condA (ht := fun hb => ?_) (hf := fun hb => ?_) <;> (try simp at hb) <;> (try (exfalso; omega))))
      rw [h2]
      exact Fin.ret ResL.auto
theorem rrightE {op : Int} (h : op = 15) {d : Nat} {n u : Int} {s : Str} {l : List Exp} (hs : s.length ≤ 9223372036854775807) (hl : l.length ≤ 9223372036854775807) (hdb : (d : Int) ≤ 100)
    (ih : ∀ x ∈ l, ACalls Try.prog 65 [aE x, cI (((d + 1 : Nat) : Int) - 1)] (.pv (cB (rightF d x)))) : ACalls Try.prog 65 [.agg [.int .i64 op, .int .i64 n, .int .i64 u, .str s, .sl (l.map encX)], cI ((d + 1 : Nat) : Int)] (.pv (cB (decide ((l.length : Int) = 3) && decide (u = 0) && decide (n = 0) && (l.all (rightF d) && decide (s = E0))))) := by
  refine ACalls.of_W (qs := [cB (decide ((l.length : Int) = 3) && decide (u = 0) && decide (n = 0) && (l.all (rightF d) && decide (s = E0)))]) [4] 149 Try.func65 (by kernel_rfl) rfl rfl rfl fun G => ?_
  refine W.initA (hw := ?_)
  repeat' (first
    | apply RG.nil
    | apply Lex.nil
    | apply Then.n
    | apply Then.r
    | apply Then.x
    | apply InBlock.n
    | apply InBlock.r
    | apply InBlock.hit
    | (apply InBlock.miss; exact rfl)
    | apply W.seq
    | apply W.region
    | apply W.block
    | apply W.skip
    | apply W.ret
    | apply W.exit
    | ((first | apply U_ | (apply Ug_; exact rfl; exact rfl) | (apply Ugq_; exact rfl; exact rfl)); (first
    | exact QX.Move TYok
    | exact QX.Asg TYok
    | exact QX.Fld TYok
    | exact QX.Ld TYok
    | exact QX.Bin TYok
    | exact QX.Pick TYok
    | exact QX.Un TYok
    | exact QX.Len TYok
    | exact QX.Idx TYok
    | (apply Q_call (within_ok n 1 1000); exact EvL.auto; exact rfl)); exact rfl)
    | refine SX.Box TYok (h := ?_)
    | (apply S_isnil TYok; exact rfl; exact rfl; exact rfl; exact Ev.auto; intro bn hnil)
    | (apply RG.gT; exact rfl; exact rfl; (first | assumption | decide))
    | (apply RG.gF; exact rfl; exact rfl; (first | assumption | decide | (rw [ne_eq, Bool.not_eq_true]; assumption) | (rw [ne_eq, Bool.not_eq_false]; assumption)); exact rfl)
    | (refine W.condA (ht := fun hb => ?_) (hf := fun hb => ?_) <;> (try simp at hb) <;> (try (exfalso; omega))))
  · have e : (decide ((l.length : Int) = 3) && decide (u = 0) && decide (n = 0) && (l.all (rightF d) && decide (s = E0))) = false := by
      rw [Bool.eq_false_iff]; intro hx; simp only [Bool.and_eq_true, decide_eq_true_eq] at hx
      obtain ⟨⟨⟨hx1, hx2⟩, hx3⟩, hx4⟩ := hx
      rw [hx3] at hb; simp [hx1, hx2] at hb; try omega
    rw [e]
    exact Fin.ret ResL.auto
  have g : decide ((l.length : Int) = 3) = true ∧ decide (u = 0) = true ∧ decide (n = 0) = true := by
    have hq := ‹(((l.length : Int) = 3 ∧ (¬op = 0 → u = 0)) ∧ _) ∧ _›
    have hq2 : n = 0 := by have := hq.2; omega
    have hq1 := hq.1.1.1
    have hq3 := hq.1.1.2 (by omega)
    simp [hq1, hq2, hq3]
  rw [g.1, g.2.1, g.2.2, Bool.true_and, Bool.true_and, Bool.true_and]
  apply W.loopP (σ := Nat) 149 [1, 2] (fun k => k ≤ l.length ∧ (l.take k).all (rightF d) = true) (fun k => [(8, vI k)]) (fun _ => [(2, ⟨35, 5, [[.int .i64 op, .int .i64 n, .int .i64 u, .str s, .sl (l.map encX)]]⟩)]) (fun k => l.length - k) (0)
  case hp => repeat (first | exact Pick.nil | apply Pick.cons rfl)
  case h0 =>
    refine ⟨by simp, ?_⟩
    exact Le.auto
  case round =>
    rintro k ⟨h1, h2⟩
    apply W.norm (by repeat (first | exact App.nil | apply App.cons))
    by_cases hk : k < l.length
    · repeat' (first
        | apply RG.nil
        | apply Lex.nil
        | apply Then.n
        | apply Then.r
        | apply Then.x
        | apply InBlock.n
        | apply InBlock.r
        | apply InBlock.hit
        | (apply InBlock.miss; exact rfl)
        | apply W.seq
        | apply W.region
        | apply W.block
        | apply W.skip
        | apply W.ret
        | apply W.exit
        | ((first | apply U_ | (apply Ug_; exact rfl; exact rfl) | (apply Ugq_; exact rfl; exact rfl)); (first
    | exact QX.Move TYok
    | exact QX.Asg TYok
    | exact QX.Fld TYok
    | exact QX.Ld TYok
    | exact QX.Bin TYok
    | exact QX.Pick TYok
    | exact QX.Un TYok
    | exact QX.Len TYok
    | exact QX.Idx TYok
    | (apply Q_call (ih (nth l k) (nth_mem hk)); exact EvL.auto; exact rfl)); exact rfl)
        | refine SX.Box TYok (h := ?_)
        | (apply S_isnil TYok; exact rfl; exact rfl; exact rfl; exact Ev.auto; intro bn hnil)
        | (apply RG.gT; exact rfl; exact rfl; (first | assumption | decide))
        | (apply RG.gF; exact rfl; exact rfl; (first | assumption | decide | (rw [ne_eq, Bool.not_eq_true]; assumption) | (rw [ne_eq, Bool.not_eq_false]; assumption)); exact rfl)
        | (refine W.condA (ht := fun hb => ?_) (hf := fun hb => ?_) <;> (try simp at hb) <;> (try (exfalso; omega))))
      · have e : l.all (rightF d) = false := by
          rw [← Bool.not_eq_true, List.all_eq_true]; intro hx; rw [hx _ (nth_mem hk)] at hb; cases hb
        rw [e]
        exact Fin.ret ResL.auto
      · refine ⟨k + 1, ⟨by omega, ?_⟩, ?_, ?_⟩
        · rw [all_take hk, h2, hb]; rfl
        · exact Le.auto
        · (try simp only); omega
    · obtain rfl : k = l.length := by omega
      rw [List.take_length] at h2
      repeat' (first
        | apply RG.nil
        | apply Lex.nil
        | apply Then.n
        | apply Then.r
        | apply Then.x
        | apply InBlock.n
        | apply InBlock.r
        | apply InBlock.hit
        | (apply InBlock.miss; exact rfl)
        | apply W.seq
        | apply W.region
        | apply W.block
        | apply W.skip
        | apply W.ret
        | apply W.exit
        | ((first | apply U_ | (apply Ug_; exact rfl; exact rfl) | (apply Ugq_; exact rfl; exact rfl)); (first
    | exact QX.Move TYok
    | exact QX.Asg TYok
    | exact QX.Fld TYok
    | exact QX.Ld TYok
    | exact QX.Bin TYok
    | exact QX.Pick TYok
    | exact QX.Un TYok
    | exact QX.Len TYok
    | exact QX.Idx TYok); exact rfl)
        | refine SX.Box TYok (h := ?_)
        | (apply S_isnil TYok; exact rfl; exact rfl; exact rfl; exact Ev.auto; intro bn hnil)
        | (apply RG.gT; exact rfl; exact rfl; (first | assumption | decide))
        | (apply RG.gF; exact rfl; exact rfl; (first | assumption | decide | (rw [ne_eq, Bool.not_eq_true]; assumption) | (rw [ne_eq, Bool.not_eq_false]; assumption)); exact rfl)
        | (refine W.condA (ht := fun hb => ?_) (hf := fun hb => ?_) <;> (try simp at hb) <;> (try (exfalso; omega))))
      rw [h2]
      exact Fin.ret ResL.auto
theorem rrightF {op : Int} (h : 4 ≤ op ∧ op ≤ 14 ∧ op ≠ 12) {d : Nat} {n u : Int} {s : Str} {l : List Exp} (hs : s.length ≤ 9223372036854775807) (hl : l.length ≤ 9223372036854775807) (hdb : (d : Int) ≤ 100)
    (ih : ∀ x ∈ l, ACalls Try.prog 65 [aE x, cI (((d + 1 : Nat) : Int) - 1)] (.pv (cB (rightF d x)))) : ACalls Try.prog 65 [.agg [.int .i64 op, .int .i64 n, .int .i64 u, .str s, .sl (l.map encX)], cI ((d + 1 : Nat) : Int)] (.pv (cB (decide ((l.length : Int) = 2) && decide (u = 0) && decide (n = 0) && (l.all (rightF d) && decide (s = E0))))) := by
  refine ACalls.of_W (qs := [cB (decide ((l.length : Int) = 2) && decide (u = 0) && decide (n = 0) && (l.all (rightF d) && decide (s = E0)))]) [4] 149 Try.func65 (by kernel_rfl) rfl rfl rfl fun G => ?_
  refine W.initA (hw := ?_)
  repeat' (first
    | apply RG.nil
    | apply Lex.nil
    | apply Then.n
    | apply Then.r
    | apply Then.x
    | apply InBlock.n
    | apply InBlock.r
    | apply InBlock.hit
    | (apply InBlock.miss; exact rfl)
    | apply W.seq
    | apply W.region
    | apply W.block
    | apply W.skip
    | apply W.ret
    | apply W.exit
    | ((first | apply U_ | (apply Ug_; exact rfl; exact rfl) | (apply Ugq_; exact rfl; exact rfl)); (first
    | exact QX.Move TYok
    | exact QX.Asg TYok
    | exact QX.Fld TYok
    | exact QX.Ld TYok
    | exact QX.Bin TYok
    | exact QX.Pick TYok
    | exact QX.Un TYok
    | exact QX.Len TYok
    | exact QX.Idx TYok
    | (apply Q_call (within_ok n 1 1000); exact EvL.auto; exact rfl)); exact rfl)
    | refine SX.Box TYok (h := ?_)
    | (apply S_isnil TYok; exact rfl; exact rfl; exact rfl; exact Ev.auto; intro bn hnil)
    | (apply RG.gT; exact rfl; exact rfl; (first | assumption | decide))
    | (apply RG.gF; exact rfl; exact rfl; (first | assumption | decide | (rw [ne_eq, Bool.not_eq_true]; assumption) | (rw [ne_eq, Bool.not_eq_false]; assumption)); exact rfl)
    | (refine W.condA (ht := fun hb => ?_) (hf := fun hb => ?_) <;> (try simp at hb) <;> (try (exfalso; omega))))
  · have e : (decide ((l.length : Int) = 2) && decide (u = 0) && decide (n = 0) && (l.all (rightF d) && decide (s = E0))) = false := by
      rw [Bool.eq_false_iff]; intro hx; simp only [Bool.and_eq_true, decide_eq_true_eq] at hx
      obtain ⟨⟨⟨hx1, hx2⟩, hx3⟩, hx4⟩ := hx
      rw [hx3] at hb; simp [hx1, hx2] at hb; try omega
    rw [e]
    exact Fin.ret ResL.auto
  have g : decide ((l.length : Int) = 2) = true ∧ decide (u = 0) = true ∧ decide (n = 0) = true := by
    have hq := ‹(((l.length : Int) = 2 ∧ (¬op = 0 → u = 0)) ∧ _) ∧ _›
    have hq2 : n = 0 := by have := hq.2; omega
    have hq1 := hq.1.1.1
    have hq3 := hq.1.1.2 (by omega)
    simp [hq1, hq2, hq3]
  rw [g.1, g.2.1, g.2.2, Bool.true_and, Bool.true_and, Bool.true_and]
  apply W.loopP (σ := Nat) 149 [1, 2] (fun k => k ≤ l.length ∧ (l.take k).all (rightF d) = true) (fun k => [(8, vI k)]) (fun _ => [(2, ⟨35, 5, [[.int .i64 op, .int .i64 n, .int .i64 u, .str s, .sl (l.map encX)]]⟩)]) (fun k => l.length - k) (0)
  case hp => repeat (first | exact Pick.nil | apply Pick.cons rfl)
  case h0 =>
    refine ⟨by simp, ?_⟩
    exact Le.auto
  case round =>
    rintro k ⟨h1, h2⟩
    apply W.norm (by repeat (first | exact App.nil | apply App.cons))
    by_cases hk : k < l.length
    · repeat' (first
        | apply RG.nil
        | apply Lex.nil
        | apply Then.n
        | apply Then.r
        | apply Then.x
        | apply InBlock.n
        | apply InBlock.r
        | apply InBlock.hit
        | (apply InBlock.miss; exact rfl)
        | apply W.seq
        | apply W.region
        | apply W.block
        | apply W.skip
        | apply W.ret
        | apply W.exit
        | ((first | apply U_ | (apply Ug_; exact rfl; exact rfl) | (apply Ugq_; exact rfl; exact rfl)); (first
    | exact QX.Move TYok
    | exact QX.Asg TYok
    | exact QX.Fld TYok
    | exact QX.Ld TYok
    | exact QX.Bin TYok
    | exact QX.Pick TYok
    | exact QX.Un TYok
    | exact QX.Len TYok
    | exact QX.Idx TYok
    | (apply Q_call (ih (nth l k) (nth_mem hk)); exact EvL.auto; exact rfl)); exact rfl)
        | refine SX.Box TYok (h := ?_)
        | (apply S_isnil TYok; exact rfl; exact rfl; exact rfl; exact Ev.auto; intro bn hnil)
        | (apply RG.gT; exact rfl; exact rfl; (first | assumption | decide))
        | (apply RG.gF; exact rfl; exact rfl; (first | assumption | decide | (rw [ne_eq, Bool.not_eq_true]; assumption) | (rw [ne_eq, Bool.not_eq_false]; assumption)); exact rfl)
        | (refine W.condA (ht := fun hb => ?_) (hf := fun hb => ?_) <;> (try simp at hb) <;> (try (exfalso; omega))))
      · have e : l.all (rightF d) = false := by
          rw [← Bool.not_eq_true, List.all_eq_true]; intro hx; rw [hx _ (nth_mem hk)] at hb; cases hb
        rw [e]
        exact Fin.ret ResL.auto
      · refine ⟨k + 1, ⟨by omega, ?_⟩, ?_, ?_⟩
        · rw [all_take hk, h2, hb]; rfl
        · exact Le.auto
        · (try simp only); omega
    · obtain rfl : k = l.length := by omega
      rw [List.take_length] at h2
      repeat' (first
        | apply RG.nil
        | apply Lex.nil
        | apply Then.n
        | apply Then.r
        | apply Then.x
        | apply InBlock.n
        | apply InBlock.r
        | apply InBlock.hit
        | (apply InBlock.miss; exact rfl)
        | apply W.seq
        | apply W.region
        | apply W.block
        | apply W.skip
        | apply W.ret
        | apply W.exit
        | ((first | apply U_ | (apply Ug_; exact rfl; exact rfl) | (apply Ugq_; exact rfl; exact rfl)); (first
    | exact QX.Move TYok
    | exact QX.Asg TYok
    | exact QX.Fld TYok
    | exact QX.Ld TYok
    | exact QX.Bin TYok
    | exact QX.Pick TYok
    | exact QX.Un TYok
    | exact QX.Len TYok
    | exact QX.Idx TYok); exact rfl)
        | refine SX.Box TYok (h := ?_)
        | (apply S_isnil TYok; exact rfl; exact rfl; exact rfl; exact Ev.auto; intro bn hnil)
        | (apply RG.gT; exact rfl; exact rfl; (first | assumption | decide))
        | (apply RG.gF; exact rfl; exact rfl; (first | assumption | decide | (rw [ne_eq, Bool.not_eq_true]; assumption) | (rw [ne_eq, Bool.not_eq_false]; assumption)); exact rfl)
        | (refine W.condA (ht := fun hb => ?_) (hf := fun hb => ?_) <;> (try simp at hb) <;> (try (exfalso; omega))))
      rw [h2]
      exact Fin.ret ResL.auto
theorem rrightA {d : Nat} {n u : Int} {s : Str} {l : List Exp} (hs : s.length ≤ 9223372036854775807) (hl : l.length ≤ 9223372036854775807) (hdb : (d : Int) ≤ 100) :
    ACalls Try.prog 65 [.agg [.int .i64 0, .int .i64 n, .int .i64 u, .str s, .sl (l.map encX)], cI ((d + 1 : Nat) : Int)] (.pv (cB (decide ((l.length : Int) = 0) && (decide (s = E0) && inF 0 4 u && inF 0 (if u = 4 then 1 else 1000000000000000) n)))) := by
  refine ACalls.of_W (qs := [cB (decide ((l.length : Int) = 0) && (decide (s = E0) && inF 0 4 u && inF 0 (if u = 4 then 1 else 1000000000000000) n))]) [4] 149 Try.func65 (by kernel_rfl) rfl rfl rfl fun G => ?_
  refine W.initA (hw := ?_)
  repeat' (first
    | apply RG.nil
    | apply Lex.nil
    | apply Then.n
    | apply Then.r
    | apply Then.x
    | apply InBlock.n
    | apply InBlock.r
    | apply InBlock.hit
    | (apply InBlock.miss; exact rfl)
    | apply W.seq
    | apply W.region
    | apply W.block
    | apply W.skip
    | apply W.ret
    | apply W.exit
    | ((first | apply U_ | (apply Ug_; exact rfl; exact rfl) | (apply Ugq_; exact rfl; exact rfl)); (first
    | exact QX.Move TYok
    | exact QX.Asg TYok
    | exact QX.Fld TYok
    | exact QX.Ld TYok
    | exact QX.Bin TYok
    | exact QX.Pick TYok
    | exact QX.Un TYok
    | exact QX.Len TYok
    | exact QX.Idx TYok
    | (apply Q_call (within_ok n 1 1000); exact EvL.auto; exact rfl)
    | (apply Q_call (within_ok u 0 4); exact EvL.auto; exact rfl)
    | (apply Q_call (within_ok n 0 1000000000000000); exact EvL.auto; exact rfl)); exact rfl)
    | refine SX.Box TYok (h := ?_)
    | (apply S_isnil TYok; exact rfl; exact rfl; exact rfl; exact Ev.auto; intro bn hnil)
    | (apply RG.gT; exact rfl; exact rfl; (first | assumption | decide))
    | (apply RG.gF; exact rfl; exact rfl; (first | assumption | decide | (rw [ne_eq, Bool.not_eq_true]; assumption) | (rw [ne_eq, Bool.not_eq_false]; assumption)); exact rfl)
    | (refine W.condA (ht := fun hb => ?_) (hf := fun hb => ?_) <;> (try simp at hb) <;> (try (exfalso; omega))))
  · have e : (decide ((l.length : Int) = 0) && (decide (s = E0) && inF 0 4 u && inF 0 (if u = 4 then 1 else 1000000000000000) n)) = false := by
      rw [Bool.eq_false_iff]; intro hx; simp only [Bool.and_eq_true, decide_eq_true_eq] at hx
      have hl0 : l = [] := List.length_eq_zero_iff.1 (by omega)
      exact hb hl0
    rw [e]
    exact Fin.ret ResL.auto
  · have hl0 : l = [] := ‹l = []›
    have hq : (l.length : Int) = 0 := by rw [hl0]; rfl
    have e : (decide ((l.length : Int) = 0) && (decide (s = E0) && inF 0 4 u && inF 0 (if u = 4 then 1 else 1000000000000000) n)) = (decide (s = E0) && inF 0 4 u && inF 0 1000000000000000 n && (!decide (u = 4) || decide (n ≤ 1))) := by
      rw [hq]
      by_cases h4 : u = 4
      · simp only [h4, if_true, inF]
        cases decide (s = E0) <;> simp
        rw [Bool.eq_iff_iff]; simp; omega
      · simp [h4]
    rw [e]
    exact Fin.ret ResL.auto
theorem rrightB {op : Int} (h : op = 1 ∨ op = 2 ∨ op = 3) {d : Nat} {n u : Int} {s : Str} {l : List Exp} (hs : s.length ≤ 9223372036854775807) (hl : l.length ≤ 9223372036854775807) (hdb : (d : Int) ≤ 100) :
    ACalls Try.prog 65 [.agg [.int .i64 op, .int .i64 n, .int .i64 u, .str s, .sl (l.map encX)], cI ((d + 1 : Nat) : Int)] (.pv (cB (decide ((l.length : Int) = 0) && (decide (n = 0) && decide (u = 0) && nameF s)))) := by
  refine ACalls.of_W (qs := [cB (decide ((l.length : Int) = 0) && (decide (n = 0) && decide (u = 0) && nameF s))]) [4] 149 Try.func65 (by kernel_rfl) rfl rfl rfl fun G => ?_
  refine W.initA (hw := ?_)
  repeat' (first
    | apply RG.nil
    | apply Lex.nil
    | apply Then.n
    | apply Then.r
    | apply Then.x
    | apply InBlock.n
    | apply InBlock.r
    | apply InBlock.hit
    | (apply InBlock.miss; exact rfl)
    | apply W.seq
    | apply W.region
    | apply W.block
    | apply W.skip
    | apply W.ret
    | apply W.exit
    | ((first | apply U_ | (apply Ug_; exact rfl; exact rfl) | (apply Ugq_; exact rfl; exact rfl)); (first
    | exact QX.Move TYok
    | exact QX.Asg TYok
    | exact QX.Fld TYok
    | exact QX.Ld TYok
    | exact QX.Bin TYok
    | exact QX.Pick TYok
    | exact QX.Un TYok
    | exact QX.Len TYok
    | exact QX.Idx TYok
    | (apply Q_call (within_ok n 1 1000); exact EvL.auto; exact rfl)
    | (apply Q_call (rname_ok s (by omega)); exact EvL.auto; exact rfl)); exact rfl)
    | refine SX.Box TYok (h := ?_)
    | (apply S_isnil TYok; exact rfl; exact rfl; exact rfl; exact Ev.auto; intro bn hnil)
    | (apply RG.gT; exact rfl; exact rfl; (first | assumption | decide))
    | (apply RG.gF; exact rfl; exact rfl; (first | assumption | decide | (rw [ne_eq, Bool.not_eq_true]; assumption) | (rw [ne_eq, Bool.not_eq_false]; assumption)); exact rfl)
    | (refine W.condA (ht := fun hb => ?_) (hf := fun hb => ?_) <;> (try simp at hb) <;> (try (exfalso; omega))))
  · have e : (decide ((l.length : Int) = 0) && (decide (n = 0) && decide (u = 0) && nameF s)) = false := by
      rw [Bool.eq_false_iff]; intro hx; simp only [Bool.and_eq_true, decide_eq_true_eq] at hx
      have hl0 : l = [] := List.length_eq_zero_iff.1 (by omega)
      simp [hl0, hx.2.1.1, hx.2.1.2] at hb
      omega
    rw [e]
    exact Fin.ret ResL.auto
  · have hq := ‹((l = [] ∧ (¬op = 0 → u = 0)) ∧ _) ∧ _›
    have hq2 : n = 0 := by have := hq.2; have := hq.1.2; omega
    have hq1 : (l.length : Int) = 0 := by rw [hq.1.1.1]; rfl
    have hq3 := hq.1.1.2 (by omega)
    have e : (decide ((l.length : Int) = 0) && (decide (n = 0) && decide (u = 0) && nameF s)) = nameF s := by
      rw [hq1, hq2, hq3]; simp
    rw [e]
    exact Fin.ret ResL.auto
theorem rrightG {op : Int} {d : Nat} (h : d = 0 ∨ op < 0 ∨ op ≥ 19) (hdb : (d : Int) ≤ 101) {n u : Int} {s : Str} {l : List Exp} (hs : s.length ≤ 9223372036854775807) (hl : l.length ≤ 9223372036854775807) :
    ACalls Try.prog 65 [.agg [.int .i64 op, .int .i64 n, .int .i64 u, .str s, .sl (l.map encX)], cI (d : Int)] (.pv (cB false)) := by
  refine ACalls.of_W (qs := [cB false]) [4] 149 Try.func65 (by kernel_rfl) rfl rfl rfl fun G => ?_
  refine W.initA (hw := ?_)
  repeat' (first
    | apply RG.nil
    | apply Lex.nil
    | apply Then.n
    | apply Then.r
    | apply Then.x
    | apply InBlock.n
    | apply InBlock.r
    | apply InBlock.hit
    | (apply InBlock.miss; exact rfl)
    | apply W.seq
    | apply W.region
    | apply W.block
    | apply W.skip
    | apply W.ret
    | apply W.exit
    | ((first | apply U_ | (apply Ug_; exact rfl; exact rfl) | (apply Ugq_; exact rfl; exact rfl)); (first
    | exact QX.Move TYok
    | exact QX.Asg TYok
    | exact QX.Fld TYok
    | exact QX.Ld TYok
    | exact QX.Bin TYok
    | exact QX.Pick TYok
    | exact QX.Un TYok
    | exact QX.Len TYok
    | exact QX.Idx TYok); exact rfl)
    | refine SX.Box TYok (h := ?_)
    | (apply S_isnil TYok; exact rfl; exact rfl; exact rfl; exact Ev.auto; intro bn hnil)
    | (apply RG.gT; exact rfl; exact rfl; (first | assumption | decide))
    | (apply RG.gF; exact rfl; exact rfl; (first | assumption | decide | (rw [ne_eq, Bool.not_eq_true]; assumption) | (rw [ne_eq, Bool.not_eq_false]; assumption)); exact rfl)
    | (refine W.condA (ht := fun hb => ?_) (hf := fun hb => ?_) <;> (try simp at hb) <;> (try (exfalso; omega))))
  exact Fin.ret ResL.auto
theorem rright_ok : ∀ (d : Nat) (e : Exp), d ≤ 100 → OkE e → ACalls Try.prog 65 [aE e, cI (d : Int)] (.pv (cB (rightF d e)))
  | 0, .mk op n u s l, _, he => by
    cases he with
    | mk hs hl h => rw [aE_mk, rightF]; exact rrightG (.inl rfl) (by decide) hs hl
  | d + 1, .mk op n u s l, hd, he => by
    cases he with
    | mk hs hl h =>
    have hdb : (d : Int) ≤ 100 := by omega
    have ih : ∀ x ∈ l, ACalls Try.prog 65 [aE x, cI (((d + 1 : Nat) : Int) - 1)] (.pv (cB (rightF d x))) := by
      intro x hx
      rw [show (((d + 1 : Nat) : Int) - 1) = (d : Int) by omega]
      exact rright_ok d x (by omega) (h x hx)
    rw [aE_mk, rightF]
    by_cases h0 : op = 0
    · subst h0
      have := rrightA (d := d) (n := n) (u := u) hs hl hdb
      exact this
    by_cases h1 : op = 1 ∨ op = 2 ∨ op = 3
    · have := rrightB h1 (d := d) (n := n) (u := u) hs hl hdb
      have e : opsF op = 0 := by unfold opsF; rw [if_pos (by omega)]
      rw [e, if_neg h0, if_pos h1]
      exact this
    rw [if_neg h0, if_neg h1]
    by_cases h2 : op = 16 ∨ op = 17 ∨ op = 18
    · have := rrightC h2 (n := n) (u := u) hs hl hdb ih
      have e : opsF op = 1 := by unfold opsF; rw [if_neg (by omega), if_pos (by omega)]
      rw [e, if_pos h2]
      have e2 : (decide ((l.length : Int) = 1) && (decide (u = 0) && decide (s = []) && inF 1 1000 n && l.all (rightF d))) = (decide ((l.length : Int) = 1) && decide (u = 0) && inF 1 1000 n && (l.all (rightF d) && decide (s = E0))) := by
        show _ = (decide ((l.length : Int) = 1) && decide (u = 0) && inF 1 1000 n && (l.all (rightF d) && decide (s = [])))
        simp only [Bool.and_assoc, Bool.and_comm, Bool.and_left_comm]
      rw [e2]
      exact this
    rw [if_neg h2]
    have e2 : ∀ m : Int, (decide ((l.length : Int) = m) && (decide (n = 0) && decide (u = 0) && decide (s = []) && l.all (rightF d))) = (decide ((l.length : Int) = m) && decide (u = 0) && decide (n = 0) && (l.all (rightF d) && decide (s = E0))) := by
      intro m
      show _ = (decide ((l.length : Int) = m) && decide (u = 0) && decide (n = 0) && (l.all (rightF d) && decide (s = [])))
      simp only [Bool.and_assoc, Bool.and_comm, Bool.and_left_comm]
    rw [e2]
    by_cases h3 : op = 12
    · have e : opsF op = 1 := by unfold opsF; rw [if_neg (by omega), if_pos (by omega)]
      rw [e]
      exact rrightD h3 (n := n) (u := u) hs hl hdb ih
    by_cases h4 : op = 15
    · have e : opsF op = 3 := by unfold opsF; rw [if_neg (by omega), if_neg (by omega), if_pos (by omega)]
      rw [e]
      exact rrightE h4 (n := n) (u := u) hs hl hdb ih
    by_cases h5 : op < 0 ∨ op ≥ 19
    · have e : opsF op = -1 := by unfold opsF; rw [if_neg (by omega), if_neg (by omega), if_neg (by omega), if_pos (by omega)]
      rw [e, decide_eq_false (by omega)]
      exact rrightG (.inr h5) (by omega) hs hl
    · have e : opsF op = 2 := by unfold opsF; rw [if_neg (by omega), if_neg (by omega), if_neg (by omega), if_neg (by omega)]
      rw [e]
      exact rrightF (by omega) (n := n) (u := u) hs hl hdb ih
end Go.Proofs.Ytionjeodcmnneaa
