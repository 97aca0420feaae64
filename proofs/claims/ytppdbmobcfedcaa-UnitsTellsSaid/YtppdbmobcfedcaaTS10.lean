/-
  Part 10 of what the proof rests on.
-/
import Derived.Test.YtppdbmobcfedcaaTS04
import Derived.Test.YtppdbmobcfedcaaTS06
import Derived.Test.YtppdbmobcfedcaaTS07
import Derived.Test.YtppdbmobcfedcaaTS09
section
set_option linter.unusedVariables false
set_option linter.unusedSimpArgs false
set_option maxHeartbeats 8000000
set_option linter.unusedSectionVars false
namespace Go.Proofs.Ytppdbmobcfedcaa
open Lf Go
attribute [local irreducible] PureOp EffOp Ev RG W Then InBlock Lf.Fin nth App InitE Pick SubE EvL EvD EvP EvR ResL Lf.Lex SubR SubBR RA RAll EvC FinO FinM ResM
theorem within_ok (a b c : Int) : ACalls Try.prog 51 [cI a, cI b, cI c] (.pv (cB (inF b c a))) := by
  refine ACalls.of_W (qs := [cB (inF b c a)]) [6] 15 Try.func51 (by kernel_rfl) rfl rfl rfl fun G => ?_
  refine W.initA (hw := ?_)
  repeat' (first | ((first | apply U_ | (apply Ug_; exact rfl; exact rfl) | (apply Ugq_; exact rfl; exact rfl)); (first | exact QX.B TYok); exact rfl) | refine SC ?_ | (apply RG.gT; exact rfl; exact rfl; (first | assumption | decide)) | (apply RG.gF; exact rfl; exact rfl; (first | assumption | decide | (rw [ne_eq, Bool.not_eq_true]; assumption) | (rw [ne_eq, Bool.not_eq_false]; assumption)); exact rfl) | (refine W.condA (ht := fun hb => ?_) (hf := fun hb => ?_) <;> (try simp at hb) <;> (try (exfalso; omega))))
  exact Fin.ret ResL.auto
theorem all_take {α : Type} [Inhabited α] {l : List α} {p : α → Bool} {k : Nat} (h : k < l.length) : (l.take (k + 1)).all p = ((l.take k).all p && p (nth l k)) := by
  rw [take_nth h]; simp
theorem rrightC {op : Int} (h : op = 16 ∨ op = 17 ∨ op = 18) {d : Nat} {n u : Int} {s : Str} {l : List Exp} (hs : s.length ≤ 9223372036854775807) (hl : l.length ≤ 9223372036854775807) (hdb : (d : Int) ≤ 100)
    (ih : ∀ x ∈ l, ACalls Try.prog 47 [aE x, cI (((d + 1 : Nat) : Int) - 1)] (.pv (cB (rightF d x)))) : ACalls Try.prog 47 [.agg [.int .i64 op, .int .i64 n, .int .i64 u, .str s, .sl (l.map encX)], cI ((d + 1 : Nat) : Int)] (.pv (cB (decide ((l.length : Int) = 1) && decide (u = 0) && inF 1 1000 n && (l.all (rightF d) && decide (s = E0))))) := by
  refine ACalls.of_W (qs := [cB (decide ((l.length : Int) = 1) && decide (u = 0) && inF 1 1000 n && (l.all (rightF d) && decide (s = E0)))]) [4] 149 Try.func47 (by kernel_rfl) rfl rfl rfl fun G => ?_
  refine W.initA (hw := ?_)
  repeat' (first | ((first | apply U_ | (apply Ug_; exact rfl; exact rfl) | (apply Ugq_; exact rfl; exact rfl)); (first | exact QX.B TYok | exact QX.Len TYok | exact QX.Idx TYok | exact QCl (within_ok n 1 1000)); exact rfl) | refine SX.Box TYok (h := ?_) | refine SC ?_ | (apply S_isnil TYok; exact rfl; exact rfl; exact rfl; exact Ev.auto; intro bn hnil) | (apply RG.gT; exact rfl; exact rfl; (first | assumption | decide)) | (apply RG.gF; exact rfl; exact rfl; (first | assumption | decide | (rw [ne_eq, Bool.not_eq_true]; assumption) | (rw [ne_eq, Bool.not_eq_false]; assumption)); exact rfl) | (refine W.condA (ht := fun hb => ?_) (hf := fun hb => ?_) <;> (try simp at hb) <;> (try (exfalso; omega))))
  · have e : (decide ((l.length : Int) = 1) && decide (u = 0) && inF 1 1000 n && (l.all (rightF d) && decide (s = E0))) = false := by
      rw [Bool.eq_false_iff]; intro hx; simp only [Bool.and_eq_true, decide_eq_true_eq] at hx
      obtain ⟨⟨⟨hx1, hx2⟩, hx3⟩, hx4⟩ := hx
      rw [hx3] at hb; simp [hx1, hx2] at hb; try omega
    rw [e]
    exact Fin.ret ResL.auto
  have g : decide ((l.length : Int) = 1) = true ∧ decide (u = 0) = true ∧ inF 1 1000 n = true := by
    have hq := ‹(((l.length : Int) = 1 ∧ (¬op = 0 → u = 0)) ∧ _) ∧ _›
    have hq2 : inF 1 1000 n = true := hq.2 (by omega)
    have hq1 := hq.1.1.1
    have hq3 := hq.1.1.2 (by omega)
    simp [hq1, hq2, hq3]
  rw [g.1, g.2.1, g.2.2, Bool.true_and, Bool.true_and, Bool.true_and]
  apply W.loopP (σ := Nat) 149 [1, 2] (fun k => k ≤ l.length ∧ (l.take k).all (rightF d) = true) (fun k => [(8, vI k)]) (fun _ => [(2, ⟨25, 5, [[.int .i64 op, .int .i64 n, .int .i64 u, .str s, .sl (l.map encX)]]⟩)]) (fun k => l.length - k) (0)
  case hp => repeat (first | exact Pick.nil | apply Pick.cons rfl)
  case h0 =>
    refine ⟨by simp, ?_⟩
    exact Le.auto
  case round =>
    rintro k ⟨h1, h2⟩
    apply W.norm (by repeat (first | exact App.nil | apply App.cons))
    by_cases hk : k < l.length
    · repeat' (first | ((first | apply U_ | (apply Ug_; exact rfl; exact rfl) | (apply Ugq_; exact rfl; exact rfl)); (first | exact QX.B TYok | exact QX.Len TYok | exact QX.Idx TYok | exact QCl (ih (nth l k) (nth_mem hk))); exact rfl) | refine SX.Box TYok (h := ?_) | refine SC ?_ | (apply S_isnil TYok; exact rfl; exact rfl; exact rfl; exact Ev.auto; intro bn hnil) | (apply RG.gT; exact rfl; exact rfl; (first | assumption | decide)) | (apply RG.gF; exact rfl; exact rfl; (first | assumption | decide | (rw [ne_eq, Bool.not_eq_true]; assumption) | (rw [ne_eq, Bool.not_eq_false]; assumption)); exact rfl) | (refine W.condA (ht := fun hb => ?_) (hf := fun hb => ?_) <;> (try simp at hb) <;> (try (exfalso; omega))))
      · have e : l.all (rightF d) = false := by
          rw [← Bool.not_eq_true, List.all_eq_true]; intro hx; rw [hx _ (nth_mem hk)] at hb; cases hb
        rw [e]
        exact Fin.ret ResL.auto
      · refine ⟨k + 1, ⟨by omega, ?_⟩, ?_, ?_⟩
        · rw [all_take hk, h2, hb]; rfl
        · exact Le.auto
        · (try simp only); omega
    · obtain rfl : k = l.length := by omega
      rw [List.take_length] at h2
      repeat' (first | ((first | apply U_ | (apply Ug_; exact rfl; exact rfl) | (apply Ugq_; exact rfl; exact rfl)); (first | exact QX.B TYok | exact QX.Len TYok | exact QX.Idx TYok); exact rfl) | refine SX.Box TYok (h := ?_) | refine SC ?_ | (apply S_isnil TYok; exact rfl; exact rfl; exact rfl; exact Ev.auto; intro bn hnil) | (apply RG.gT; exact rfl; exact rfl; (first | assumption | decide)) | (apply RG.gF; exact rfl; exact rfl; (first | assumption | decide | (rw [ne_eq, Bool.not_eq_true]; assumption) | (rw [ne_eq, Bool.not_eq_false]; assumption)); exact rfl) | (refine W.condA (ht := fun hb => ?_) (hf := fun hb => ?_) <;> (try simp at hb) <;> (try (exfalso; omega))))
      rw [h2]
      exact Fin.ret ResL.auto
theorem rrightD {op : Int} (h : op = 12) {d : Nat} {n u : Int} {s : Str} {l : List Exp} (hs : s.length ≤ 9223372036854775807) (hl : l.length ≤ 9223372036854775807) (hdb : (d : Int) ≤ 100)
    (ih : ∀ x ∈ l, ACalls Try.prog 47 [aE x, cI (((d + 1 : Nat) : Int) - 1)] (.pv (cB (rightF d x)))) : ACalls Try.prog 47 [.agg [.int .i64 op, .int .i64 n, .int .i64 u, .str s, .sl (l.map encX)], cI ((d + 1 : Nat) : Int)] (.pv (cB (decide ((l.length : Int) = 1) && decide (u = 0) && decide (n = 0) && (l.all (rightF d) && decide (s = E0))))) := by
  refine ACalls.of_W (qs := [cB (decide ((l.length : Int) = 1) && decide (u = 0) && decide (n = 0) && (l.all (rightF d) && decide (s = E0)))]) [4] 149 Try.func47 (by kernel_rfl) rfl rfl rfl fun G => ?_
  refine W.initA (hw := ?_)
  repeat' (first | ((first | apply U_ | (apply Ug_; exact rfl; exact rfl) | (apply Ugq_; exact rfl; exact rfl)); (first | exact QX.B TYok | exact QX.Len TYok | exact QX.Idx TYok | exact QCl (within_ok n 1 1000)); exact rfl) | refine SX.Box TYok (h := ?_) | refine SC ?_ | (apply S_isnil TYok; exact rfl; exact rfl; exact rfl; exact Ev.auto; intro bn hnil) | (apply RG.gT; exact rfl; exact rfl; (first | assumption | decide)) | (apply RG.gF; exact rfl; exact rfl; (first | assumption | decide | (rw [ne_eq, Bool.not_eq_true]; assumption) | (rw [ne_eq, Bool.not_eq_false]; assumption)); exact rfl) | (refine W.condA (ht := fun hb => ?_) (hf := fun hb => ?_) <;> (try simp at hb) <;> (try (exfalso; omega))))
  · have e : (decide ((l.length : Int) = 1) && decide (u = 0) && decide (n = 0) && (l.all (rightF d) && decide (s = E0))) = false := by
      rw [Bool.eq_false_iff]; intro hx; simp only [Bool.and_eq_true, decide_eq_true_eq] at hx
      obtain ⟨⟨⟨hx1, hx2⟩, hx3⟩, hx4⟩ := hx
      rw [hx3] at hb; simp [hx1, hx2] at hb; try omega
    rw [e]
    exact Fin.ret ResL.auto
  have g : decide ((l.length : Int) = 1) = true ∧ decide (u = 0) = true ∧ decide (n = 0) = true := by
    have hq := ‹(((l.length : Int) = 1 ∧ (¬op = 0 → u = 0)) ∧ _) ∧ _›
    have hq2 : n = 0 := by have := hq.2; omega
    have hq1 := hq.1.1.1
    have hq3 := hq.1.1.2 (by omega)
    simp [hq1, hq2, hq3]
  rw [g.1, g.2.1, g.2.2, Bool.true_and, Bool.true_and, Bool.true_and]
  apply W.loopP (σ := Nat) 149 [1, 2] (fun k => k ≤ l.length ∧ (l.take k).all (rightF d) = true) (fun k => [(8, vI k)]) (fun _ => [(2, ⟨25, 5, [[.int .i64 op, .int .i64 n, .int .i64 u, .str s, .sl (l.map encX)]]⟩)]) (fun k => l.length - k) (0)
  case hp => repeat (first | exact Pick.nil | apply Pick.cons rfl)
  case h0 =>
    refine ⟨by simp, ?_⟩
    exact Le.auto
  case round =>
    rintro k ⟨h1, h2⟩
    apply W.norm (by repeat (first | exact App.nil | apply App.cons))
    by_cases hk : k < l.length
    · repeat' (first | ((first | apply U_ | (apply Ug_; exact rfl; exact rfl) | (apply Ugq_; exact rfl; exact rfl)); (first | exact QX.B TYok | exact QX.Len TYok | exact QX.Idx TYok | exact QCl (ih (nth l k) (nth_mem hk))); exact rfl) | refine SX.Box TYok (h := ?_) | refine SC ?_ | (apply S_isnil TYok; exact rfl; exact rfl; exact rfl; exact Ev.auto; intro bn hnil) | (apply RG.gT; exact rfl; exact rfl; (first | assumption | decide)) | (apply RG.gF; exact rfl; exact rfl; (first | assumption | decide | (rw [ne_eq, Bool.not_eq_true]; assumption) | (rw [ne_eq, Bool.not_eq_false]; assumption)); exact rfl) | (refine W.condA (ht := fun hb => ?_) (hf := fun hb => ?_) <;> (try simp at hb) <;> (try (exfalso; omega))))
      · have e : l.all (rightF d) = false := by
          rw [← Bool.not_eq_true, List.all_eq_true]; intro hx; rw [hx _ (nth_mem hk)] at hb; cases hb
        rw [e]
        exact Fin.ret ResL.auto
      · refine ⟨k + 1, ⟨by omega, ?_⟩, ?_, ?_⟩
        · rw [all_take hk, h2, hb]; rfl
        · exact Le.auto
        · (try simp only); omega
    · obtain rfl : k = l.length := by omega
      rw [List.take_length] at h2
      repeat' (first | ((first | apply U_ | (apply Ug_; exact rfl; exact rfl) | (apply Ugq_; exact rfl; exact rfl)); (first | exact QX.B TYok | exact QX.Len TYok | exact QX.Idx TYok); exact rfl) | refine SX.Box TYok (h := ?_) | refine SC ?_ | (apply S_isnil TYok; exact rfl; exact rfl; exact rfl; exact Ev.auto; intro bn hnil) | (apply RG.gT; exact rfl; exact rfl; (first | assumption | decide)) | (apply RG.gF; exact rfl; exact rfl; (first | assumption | decide | (rw [ne_eq, Bool.not_eq_true]; assumption) | (rw [ne_eq, Bool.not_eq_false]; assumption)); exact rfl) | (refine W.condA (ht := fun hb => ?_) (hf := fun hb => ?_) <;> (try simp at hb) <;> (try (exfalso; omega))))
      rw [h2]
      exact Fin.ret ResL.auto
theorem rrightE {op : Int} (h : op = 15) {d : Nat} {n u : Int} {s : Str} {l : List Exp} (hs : s.length ≤ 9223372036854775807) (hl : l.length ≤ 9223372036854775807) (hdb : (d : Int) ≤ 100)
    (ih : ∀ x ∈ l, ACalls Try.prog 47 [aE x, cI (((d + 1 : Nat) : Int) - 1)] (.pv (cB (rightF d x)))) : ACalls Try.prog 47 [.agg [.int .i64 op, .int .i64 n, .int .i64 u, .str s, .sl (l.map encX)], cI ((d + 1 : Nat) : Int)] (.pv (cB (decide ((l.length : Int) = 3) && decide (u = 0) && decide (n = 0) && (l.all (rightF d) && decide (s = E0))))) := by
  refine ACalls.of_W (qs := [cB (decide ((l.length : Int) = 3) && decide (u = 0) && decide (n = 0) && (l.all (rightF d) && decide (s = E0)))]) [4] 149 Try.func47 (by kernel_rfl) rfl rfl rfl fun G => ?_
  refine W.initA (hw := ?_)
  repeat' (first | ((first | apply U_ | (apply Ug_; exact rfl; exact rfl) | (apply Ugq_; exact rfl; exact rfl)); (first | exact QX.B TYok | exact QX.Len TYok | exact QX.Idx TYok | exact QCl (within_ok n 1 1000)); exact rfl) | refine SX.Box TYok (h := ?_) | refine SC ?_ | (apply S_isnil TYok; exact rfl; exact rfl; exact rfl; exact Ev.auto; intro bn hnil) | (apply RG.gT; exact rfl; exact rfl; (first | assumption | decide)) | (apply RG.gF; exact rfl; exact rfl; (first | assumption | decide | (rw [ne_eq, Bool.not_eq_true]; assumption) | (rw [ne_eq, Bool.not_eq_false]; assumption)); exact rfl) | (refine W.condA (ht := fun hb => ?_) (hf := fun hb => ?_) <;> (try simp at hb) <;> (try (exfalso; omega))))
  · have e : (decide ((l.length : Int) = 3) && decide (u = 0) && decide (n = 0) && (l.all (rightF d) && decide (s = E0))) = false := by
      rw [Bool.eq_false_iff]; intro hx; simp only [Bool.and_eq_true, decide_eq_true_eq] at hx
      obtain ⟨⟨⟨hx1, hx2⟩, hx3⟩, hx4⟩ := hx
      rw [hx3] at hb; simp [hx1, hx2] at hb; try omega
    rw [e]
    exact Fin.ret ResL.auto
  have g : decide ((l.length : Int) = 3) = true ∧ decide (u = 0) = true ∧ decide (n = 0) = true := by
    have hq := ‹(((l.length : Int) = 3 ∧ (¬op = 0 → u = 0)) ∧ _) ∧ _›
    have hq2 : n = 0 := by have := hq.2; omega
    have hq1 := hq.1.1.1
    have hq3 := hq.1.1.2 (by omega)
    simp [hq1, hq2, hq3]
  rw [g.1, g.2.1, g.2.2, Bool.true_and, Bool.true_and, Bool.true_and]
  apply W.loopP (σ := Nat) 149 [1, 2] (fun k => k ≤ l.length ∧ (l.take k).all (rightF d) = true) (fun k => [(8, vI k)]) (fun _ => [(2, ⟨25, 5, [[.int .i64 op, .int .i64 n, .int .i64 u, .str s, .sl (l.map encX)]]⟩)]) (fun k => l.length - k) (0)
  case hp => repeat (first | exact Pick.nil | apply Pick.cons rfl)
  case h0 =>
    refine ⟨by simp, ?_⟩
    exact Le.auto
  case round =>
    rintro k ⟨h1, h2⟩
    apply W.norm (by repeat (first | exact App.nil | apply App.cons))
    by_cases hk : k < l.length
    · repeat' (first | ((first | apply U_ | (apply Ug_; exact rfl; exact rfl) | (apply Ugq_; exact rfl; exact rfl)); (first | exact QX.B TYok | exact QX.Len TYok | exact QX.Idx TYok | exact QCl (ih (nth l k) (nth_mem hk))); exact rfl) | refine SX.Box TYok (h := ?_) | refine SC ?_ | (apply S_isnil TYok; exact rfl; exact rfl; exact rfl; exact Ev.auto; intro bn hnil) | (apply RG.gT; exact rfl; exact rfl; (first | assumption | decide)) | (apply RG.gF; exact rfl; exact rfl; (first | assumption | decide | (rw [ne_eq, Bool.not_eq_true]; assumption) | (rw [ne_eq, Bool.not_eq_false]; assumption)); exact rfl) | (refine W.condA (ht := fun hb => ?_) (hf := fun hb => ?_) <;> (try simp at hb) <;> (try (exfalso; omega))))
      · have e : l.all (rightF d) = false := by
          rw [← Bool.not_eq_true, List.all_eq_true]; intro hx; rw [hx _ (nth_mem hk)] at hb; cases hb
        rw [e]
        exact Fin.ret ResL.auto
      · refine ⟨k + 1, ⟨by omega, ?_⟩, ?_, ?_⟩
        · rw [all_take hk, h2, hb]; rfl
        · exact Le.auto
        · (try simp only); omega
    · obtain rfl : k = l.length := by omega
      rw [List.take_length] at h2
      repeat' (first | ((first | apply U_ | (apply Ug_; exact rfl; exact rfl) | (apply Ugq_; exact rfl; exact rfl)); (first | exact QX.B TYok | exact QX.Len TYok | exact QX.Idx TYok); exact rfl) | refine SX.Box TYok (h := ?_) | refine SC ?_ | (apply S_isnil TYok; exact rfl; exact rfl; exact rfl; exact Ev.auto; intro bn hnil) | (apply RG.gT; exact rfl; exact rfl; (first | assumption | decide)) | (apply RG.gF; exact rfl; exact rfl; (first | assumption | decide | (rw [ne_eq, Bool.not_eq_true]; assumption) | (rw [ne_eq, Bool.not_eq_false]; assumption)); exact rfl) | (refine W.condA (ht := fun hb => ?_) (hf := fun hb => ?_) <;> (try simp at hb) <;> (try (exfalso; omega))))
      rw [h2]
      exact Fin.ret ResL.auto
theorem rrightF {op : Int} (h : 4 ≤ op ∧ op ≤ 14 ∧ op ≠ 12) {d : Nat} {n u : Int} {s : Str} {l : List Exp} (hs : s.length ≤ 9223372036854775807) (hl : l.length ≤ 9223372036854775807) (hdb : (d : Int) ≤ 100)
    (ih : ∀ x ∈ l, ACalls Try.prog 47 [aE x, cI (((d + 1 : Nat) : Int) - 1)] (.pv (cB (rightF d x)))) : ACalls Try.prog 47 [.agg [.int .i64 op, .int .i64 n, .int .i64 u, .str s, .sl (l.map encX)], cI ((d + 1 : Nat) : Int)] (.pv (cB (decide ((l.length : Int) = 2) && decide (u = 0) && decide (n = 0) && (l.all (rightF d) && decide (s = E0))))) := by
  refine ACalls.of_W (qs := [cB (decide ((l.length : Int) = 2) && decide (u = 0) && decide (n = 0) && (l.all (rightF d) && decide (s = E0)))]) [4] 149 Try.func47 (by kernel_rfl) rfl rfl rfl fun G => ?_
  refine W.initA (hw := ?_)
  repeat' (first | ((first | apply U_ | (apply Ug_; exact rfl; exact rfl) | (apply Ugq_; exact rfl; exact rfl)); (first | exact QX.B TYok | exact QX.Len TYok | exact QX.Idx TYok | exact QCl (within_ok n 1 1000)); exact rfl) | refine SX.Box TYok (h := ?_) | refine SC ?_ | (apply S_isnil TYok; exact rfl; exact rfl; exact rfl; exact Ev.auto; intro bn hnil) | (apply RG.gT; exact rfl; exact rfl; (first | assumption | decide)) | (apply RG.gF; exact rfl; exact rfl; (first | assumption | decide | (rw [ne_eq, Bool.not_eq_true]; assumption) | (rw [ne_eq, Bool.not_eq_false]; assumption)); exact rfl) | (refine W.condA (ht := fun hb => ?_) (hf := fun hb => ?_) <;> (try simp at hb) <;> (try (exfalso; omega))))
  · have e : (decide ((l.length : Int) = 2) && decide (u = 0) && decide (n = 0) && (l.all (rightF d) && decide (s = E0))) = false := by
      rw [Bool.eq_false_iff]; intro hx; simp only [Bool.and_eq_true, decide_eq_true_eq] at hx
      obtain ⟨⟨⟨hx1, hx2⟩, hx3⟩, hx4⟩ := hx
      rw [hx3] at hb; simp [hx1, hx2] at hb; try omega
    rw [e]
    exact Fin.ret ResL.auto
  have g : decide ((l.length : Int) = 2) = true ∧ decide (u = 0) = true ∧ decide (n = 0) = true := by
    have hq := ‹(((l.length : Int) = 2 ∧ (¬op = 0 → u = 0)) ∧ _) ∧ _›
    have hq2 : n = 0 := by have := hq.2; omega
    have hq1 := hq.1.1.1
    have hq3 := hq.1.1.2 (by omega)
    simp [hq1, hq2, hq3]
  rw [g.1, g.2.1, g.2.2, Bool.true_and, Bool.true_and, Bool.true_and]
  apply W.loopP (σ := Nat) 149 [1, 2] (fun k => k ≤ l.length ∧ (l.take k).all (rightF d) = true) (fun k => [(8, vI k)]) (fun _ => [(2, ⟨25, 5, [[.int .i64 op, .int .i64 n, .int .i64 u, .str s, .sl (l.map encX)]]⟩)]) (fun k => l.length - k) (0)
  case hp => repeat (first | exact Pick.nil | apply Pick.cons rfl)
  case h0 =>
    refine ⟨by simp, ?_⟩
    exact Le.auto
  case round =>
    rintro k ⟨h1, h2⟩
    apply W.norm (by repeat (first | exact App.nil | apply App.cons))
    by_cases hk : k < l.length
    · repeat' (first | ((first | apply U_ | (apply Ug_; exact rfl; exact rfl) | (apply Ugq_; exact rfl; exact rfl)); (first | exact QX.B TYok | exact QX.Len TYok | exact QX.Idx TYok | exact QCl (ih (nth l k) (nth_mem hk))); exact rfl) | refine SX.Box TYok (h := ?_) | refine SC ?_ | (apply S_isnil TYok; exact rfl; exact rfl; exact rfl; exact Ev.auto; intro bn hnil) | (apply RG.gT; exact rfl; exact rfl; (first | assumption | decide)) | (apply RG.gF; exact rfl; exact rfl; (first | assumption | decide | (rw [ne_eq, Bool.not_eq_true]; assumption) | (rw [ne_eq, Bool.not_eq_false]; assumption)); exact rfl) | (refine W.condA (ht := fun hb => ?_) (hf := fun hb => ?_) <;> (try simp at hb) <;> (try (exfalso; omega))))
      · have e : l.all (rightF d) = false := by
          rw [← Bool.not_eq_true, List.all_eq_true]; intro hx; rw [hx _ (nth_mem hk)] at hb; cases hb
        rw [e]
        exact Fin.ret ResL.auto
      · refine ⟨k + 1, ⟨by omega, ?_⟩, ?_, ?_⟩
        · rw [all_take hk, h2, hb]; rfl
        · exact Le.auto
        · (try simp only); omega
    · obtain rfl : k = l.length := by omega
      rw [List.take_length] at h2
      repeat' (first | ((first | apply U_ | (apply Ug_; exact rfl; exact rfl) | (apply Ugq_; exact rfl; exact rfl)); (first | exact QX.B TYok | exact QX.Len TYok | exact QX.Idx TYok); exact rfl) | refine SX.Box TYok (h := ?_) | refine SC ?_ | (apply S_isnil TYok; exact rfl; exact rfl; exact rfl; exact Ev.auto; intro bn hnil) | (apply RG.gT; exact rfl; exact rfl; (first | assumption | decide)) | (apply RG.gF; exact rfl; exact rfl; (first | assumption | decide | (rw [ne_eq, Bool.not_eq_true]; assumption) | (rw [ne_eq, Bool.not_eq_false]; assumption)); exact rfl) | (refine W.condA (ht := fun hb => ?_) (hf := fun hb => ?_) <;> (try simp at hb) <;> (try (exfalso; omega))))
      rw [h2]
      exact Fin.ret ResL.auto
theorem rrightA {d : Nat} {n u : Int} {s : Str} {l : List Exp} (hs : s.length ≤ 9223372036854775807) (hl : l.length ≤ 9223372036854775807) (hdb : (d : Int) ≤ 100) :
    ACalls Try.prog 47 [.agg [.int .i64 0, .int .i64 n, .int .i64 u, .str s, .sl (l.map encX)], cI ((d + 1 : Nat) : Int)] (.pv (cB (decide ((l.length : Int) = 0) && (decide (s = E0) && inF 0 4 u && inF 0 (if u = 4 then 1 else 1000000000000000) n)))) := by
  refine ACalls.of_W (qs := [cB (decide ((l.length : Int) = 0) && (decide (s = E0) && inF 0 4 u && inF 0 (if u = 4 then 1 else 1000000000000000) n))]) [4] 149 Try.func47 (by kernel_rfl) rfl rfl rfl fun G => ?_
  refine W.initA (hw := ?_)
  repeat' (first | ((first | apply U_ | (apply Ug_; exact rfl; exact rfl) | (apply Ugq_; exact rfl; exact rfl)); (first | exact QX.B TYok | exact QX.Len TYok | exact QX.Idx TYok | exact QCl (within_ok n 1 1000) | exact QCl (within_ok u 0 4) | exact QCl (within_ok n 0 1000000000000000)); exact rfl) | refine SX.Box TYok (h := ?_) | refine SC ?_ | (apply S_isnil TYok; exact rfl; exact rfl; exact rfl; exact Ev.auto; intro bn hnil) | (apply RG.gT; exact rfl; exact rfl; (first | assumption | decide)) | (apply RG.gF; exact rfl; exact rfl; (first | assumption | decide | (rw [ne_eq, Bool.not_eq_true]; assumption) | (rw [ne_eq, Bool.not_eq_false]; assumption)); exact rfl) | (refine W.condA (ht := fun hb => ?_) (hf := fun hb => ?_) <;> (try simp at hb) <;> (try (exfalso; omega))))
  · have e : (decide ((l.length : Int) = 0) && (decide (s = E0) && inF 0 4 u && inF 0 (if u = 4 then 1 else 1000000000000000) n)) = false := by
      rw [Bool.eq_false_iff]; intro hx; simp only [Bool.and_eq_true, decide_eq_true_eq] at hx
      have hl0 : l = [] := List.length_eq_zero_iff.1 (by omega)
      exact hb hl0
    rw [e]
    exact Fin.ret ResL.auto
  · have hl0 : l = [] := ‹l = []›
    have hq : (l.length : Int) = 0 := by rw [hl0]; rfl
    have e : (decide ((l.length : Int) = 0) && (decide (s = E0) && inF 0 4 u && inF 0 (if u = 4 then 1 else 1000000000000000) n)) = (decide (s = E0) && inF 0 4 u && inF 0 1000000000000000 n && (!decide (u = 4) || decide (n ≤ 1))) := by
      rw [hq]
      by_cases h4 : u = 4
      · simp only [h4, if_true, inF]
        cases decide (s = E0) <;> simp
        rw [Bool.eq_iff_iff]; simp; omega
      · simp [h4]
    rw [e]
    exact Fin.ret ResL.auto
theorem rrightB {op : Int} (h : op = 1 ∨ op = 2 ∨ op = 3) {d : Nat} {n u : Int} {s : Str} {l : List Exp} (hs : s.length ≤ 9223372036854775807) (hl : l.length ≤ 9223372036854775807) (hdb : (d : Int) ≤ 100) :
    ACalls Try.prog 47 [.agg [.int .i64 op, .int .i64 n, .int .i64 u, .str s, .sl (l.map encX)], cI ((d + 1 : Nat) : Int)] (.pv (cB (decide ((l.length : Int) = 0) && (decide (n = 0) && decide (u = 0) && nameF s)))) := by
  refine ACalls.of_W (qs := [cB (decide ((l.length : Int) = 0) && (decide (n = 0) && decide (u = 0) && nameF s))]) [4] 149 Try.func47 (by kernel_rfl) rfl rfl rfl fun G => ?_
  refine W.initA (hw := ?_)
  repeat' (first | ((first | apply U_ | (apply Ug_; exact rfl; exact rfl) | (apply Ugq_; exact rfl; exact rfl)); (first | exact QX.B TYok | exact QX.Len TYok | exact QX.Idx TYok | exact QCl (within_ok n 1 1000) | exact QCl (rname_ok s (by omega))); exact rfl) | refine SX.Box TYok (h := ?_) | refine SC ?_ | (apply S_isnil TYok; exact rfl; exact rfl; exact rfl; exact Ev.auto; intro bn hnil) | (apply RG.gT; exact rfl; exact rfl; (first | assumption | decide)) | (apply RG.gF; exact rfl; exact rfl; (first | assumption | decide | (rw [ne_eq, Bool.not_eq_true]; assumption) | (rw [ne_eq, Bool.not_eq_false]; assumption)); exact rfl) | (refine W.condA (ht := fun hb => ?_) (hf := fun hb => ?_) <;> (try simp at hb) <;> (try (exfalso; omega))))
  · have e : (decide ((l.length : Int) = 0) && (decide (n = 0) && decide (u = 0) && nameF s)) = false := by
      rw [Bool.eq_false_iff]; intro hx; simp only [Bool.and_eq_true, decide_eq_true_eq] at hx
      have hl0 : l = [] := List.length_eq_zero_iff.1 (by omega)
      simp [hl0, hx.2.1.1, hx.2.1.2] at hb
      omega
    rw [e]
    exact Fin.ret ResL.auto
  · have hq := ‹((l = [] ∧ (¬op = 0 → u = 0)) ∧ _) ∧ _›
    have hq2 : n = 0 := by have := hq.2; have := hq.1.2; omega
    have hq1 : (l.length : Int) = 0 := by rw [hq.1.1.1]; rfl
    have hq3 := hq.1.1.2 (by omega)
    have e : (decide ((l.length : Int) = 0) && (decide (n = 0) && decide (u = 0) && nameF s)) = nameF s := by
      rw [hq1, hq2, hq3]; simp
    rw [e]
    exact Fin.ret ResL.auto
theorem rrightG {op : Int} {d : Nat} (h : d = 0 ∨ op < 0 ∨ op ≥ 19) (hdb : (d : Int) ≤ 101) {n u : Int} {s : Str} {l : List Exp} (hs : s.length ≤ 9223372036854775807) (hl : l.length ≤ 9223372036854775807) :
    ACalls Try.prog 47 [.agg [.int .i64 op, .int .i64 n, .int .i64 u, .str s, .sl (l.map encX)], cI (d : Int)] (.pv (cB false)) := by
  refine ACalls.of_W (qs := [cB false]) [4] 149 Try.func47 (by kernel_rfl) rfl rfl rfl fun G => ?_
  refine W.initA (hw := ?_)
  repeat' (first | ((first | apply U_ | (apply Ug_; exact rfl; exact rfl) | (apply Ugq_; exact rfl; exact rfl)); (first | exact QX.B TYok | exact QX.Len TYok | exact QX.Idx TYok); exact rfl) | refine SX.Box TYok (h := ?_) | refine SC ?_ | (apply S_isnil TYok; exact rfl; exact rfl; exact rfl; exact Ev.auto; intro bn hnil) | (apply RG.gT; exact rfl; exact rfl; (first | assumption | decide)) | (apply RG.gF; exact rfl; exact rfl; (first | assumption | decide | (rw [ne_eq, Bool.not_eq_true]; assumption) | (rw [ne_eq, Bool.not_eq_false]; assumption)); exact rfl) | (refine W.condA (ht := fun hb => ?_) (hf := fun hb => ?_) <;> (try simp at hb) <;> (try (exfalso; omega))))
  exact Fin.ret ResL.auto
theorem rrightX_ok : ∀ (d : Nat) (e : Exp), d ≤ 100 → OkE e → ACalls Try.prog 47 [aE e, cI (d : Int)] (.pv (cB (rightF d e)))
  | 0, .mk op n u s l, _, he => by
    cases he with
    | mk hs hl h => rw [aE_mk, rightF]; exact rrightG (.inl rfl) (by decide) hs hl
  | d + 1, .mk op n u s l, hd, he => by
    cases he with
    | mk hs hl h =>
    have hdb : (d : Int) ≤ 100 := by omega
    have ih : ∀ x ∈ l, ACalls Try.prog 47 [aE x, cI (((d + 1 : Nat) : Int) - 1)] (.pv (cB (rightF d x))) := by
      intro x hx
      rw [show (((d + 1 : Nat) : Int) - 1) = (d : Int) by omega]
      exact rrightX_ok d x (by omega) (h x hx)
    rw [aE_mk, rightF]
    by_cases h0 : op = 0
    · subst h0
      have := rrightA (d := d) (n := n) (u := u) hs hl hdb
      exact this
    by_cases h1 : op = 1 ∨ op = 2 ∨ op = 3
    · have := rrightB h1 (d := d) (n := n) (u := u) hs hl hdb
      have e : opsF op = 0 := by unfold opsF; rw [if_pos (by omega)]
      rw [e, if_neg h0, if_pos h1]
      exact this
    rw [if_neg h0, if_neg h1]
    by_cases h2 : op = 16 ∨ op = 17 ∨ op = 18
    · have := rrightC h2 (n := n) (u := u) hs hl hdb ih
      have e : opsF op = 1 := by unfold opsF; rw [if_neg (by omega), if_pos (by omega)]
      rw [e, if_pos h2]
      have e2 : (decide ((l.length : Int) = 1) && (decide (u = 0) && decide (s = []) && inF 1 1000 n && l.all (rightF d))) = (decide ((l.length : Int) = 1) && decide (u = 0) && inF 1 1000 n && (l.all (rightF d) && decide (s = E0))) := by
        show _ = (decide ((l.length : Int) = 1) && decide (u = 0) && inF 1 1000 n && (l.all (rightF d) && decide (s = [])))
        simp only [Bool.and_assoc, Bool.and_comm, Bool.and_left_comm]
      rw [e2]
      exact this
    rw [if_neg h2]
    have e2 : ∀ m : Int, (decide ((l.length : Int) = m) && (decide (n = 0) && decide (u = 0) && decide (s = []) && l.all (rightF d))) = (decide ((l.length : Int) = m) && decide (u = 0) && decide (n = 0) && (l.all (rightF d) && decide (s = E0))) := by
      intro m
      show _ = (decide ((l.length : Int) = m) && decide (u = 0) && decide (n = 0) && (l.all (rightF d) && decide (s = [])))
      simp only [Bool.and_assoc, Bool.and_comm, Bool.and_left_comm]
    rw [e2]
    by_cases h3 : op = 12
    · have e : opsF op = 1 := by unfold opsF; rw [if_neg (by omega), if_pos (by omega)]
      rw [e]
      exact rrightD h3 (n := n) (u := u) hs hl hdb ih
    by_cases h4 : op = 15
    · have e : opsF op = 3 := by unfold opsF; rw [if_neg (by omega), if_neg (by omega), if_pos (by omega)]
      rw [e]
      exact rrightE h4 (n := n) (u := u) hs hl hdb ih
    by_cases h5 : op < 0 ∨ op ≥ 19
    · have e : opsF op = -1 := by unfold opsF; rw [if_neg (by omega), if_neg (by omega), if_neg (by omega), if_pos (by omega)]
      rw [e, decide_eq_false (by omega)]
      exact rrightG (.inr h5) (by omega) hs hl
    · have e : opsF op = 2 := by unfold opsF; rw [if_neg (by omega), if_neg (by omega), if_neg (by omega), if_neg (by omega)]
      rw [e]
      exact rrightF (by omega) (n := n) (u := u) hs hl hdb ih
end Go.Proofs.Ytppdbmobcfedcaa
end
section
set_option linter.unusedVariables false
set_option linter.unusedSimpArgs false
set_option maxHeartbeats 8000000
set_option linter.unusedSectionVars false
namespace Go.Proofs.Ytppdbmobcfedcaa
open Lf Go
attribute [local irreducible] PureOp EffOp Ev RG W Then InBlock Lf.Fin nth App InitE Pick SubE EvL EvD EvP EvR ResL Lf.Lex SubR SubBR RA RAll EvC FinO FinM ResM
section
theorem rrightExp_ok (e : Exp) (he : OkE e) : ACalls Try.prog 28 [aE e] (.pv (cB (rightF 12 e))) := by
  have h := rrightX_ok 12 e (by omega) he
  refine ACalls.of_W (qs := [cB (rightF 12 e)]) [2] 5 Try.func28 (by kernel_rfl) rfl rfl rfl fun G => ?_
  refine W.initA (hw := ?_)
  repeat' (first | ((first | apply U_); (first | exact QX.B TYok | exact QCd (h)); exact rfl) | refine SX.Box TYok (h := ?_) | refine SC ?_ | (refine W.condA (ht := fun hb => ?_) (hf := fun hb => ?_) <;> (try simp at hb) <;> (try (exfalso; omega))))
  exact Fin.ret ResL.auto
set_option maxRecDepth 20000 in
theorem rrightI_ok (x : Ind) (hx : OkN x) (hsm : x.lets.length ≤ 1000 ∧ x.covs.length ≤ 1000) : ACalls Try.prog 32 [aN x] (.pv (cB (rightN x))) := by
  have g1 := rname_ok x.name hx.name
  have g2 := rname_ok x.issuer hx.issuer
  have g3 := names_ok x.favour 20 (by omega) hx.favour hx.favn
  have g4 := names_ok (x.lets.map Let.name) 20 (by omega) (by rw [List.length_map]; exact hx.lets) (fun s hs => by obtain ⟨y, hy, rfl⟩ := List.mem_map.1 hs; exact hx.letn y hy)
  have g5 := names_ok (x.covs.map Cov.name) 20 (by omega) (by rw [List.length_map]; exact hx.covs) (fun s hs => by obtain ⟨y, hy, rfl⟩ := List.mem_map.1 hs; exact hx.covn y hy)
  have g6 := rrightExp_ok x.coupon hx.coupon
  have z1 := hx.lets
  have z2 := hx.covs
  have z3 := hx.calls
  have hm1 : ∀ k, k < x.lets.length → (x.lets.take (k + 1)).map Let.name = (x.lets.take k).map Let.name ++ [(nth x.lets k).name] := fun k hk => by rw [take_nth hk]; simp
  have hm2 : ∀ k, k < x.covs.length → (x.covs.take (k + 1)).map Cov.name = (x.covs.take k).map Cov.name ++ [(nth x.covs k).name] := fun k hk => by rw [take_nth hk]; simp
  by_cases hh : hdR x = true ∧ rightF 12 x.coupon = true
  case neg =>
    have e0 : rightN x = false := by
      cases hq : rightN x with
      | false => rfl
      | true =>
        simp only [rightN, midR, Bool.and_eq_true] at hq
        exact absurd ⟨hq.1.1, hq.1.2.2⟩ hh
    rw [e0]
    refine ACalls.of_W (qs := [cB false]) [2] 207 Try.func32 (by kernel_rfl) rfl rfl rfl fun G => ?_
    refine W.initA (hw := ?_)
    repeat' (first | ((first | apply U_ | (apply Ug_; exact rfl; exact rfl) | (apply Ugq_; exact rfl; exact rfl)); (first | exact QX.B TYok | exact QX.Len TYok | exact QX.Idx TYok | exact QCl (g1) | exact QCl (g2) | exact QCl (g3) | exact QCd (g6) | exact QCl (within_ok x.face 1 1000000000000000) | exact QCl (within_ok x.start 0 200000) | exact QCl (within_ok x.due 0 200000) | exact QCl (within_ok x.every 1 120) | exact QCl (within_ok x.count 0 2) | exact QCl (within_ok x.adjust 0 3) | exact QCl (within_ok x.record 0 100) | exact QCl (within_ok x.rank 0 9) | exact QCl (within_ok x.cap 0 10000) | exact QCl (within_ok x.cross (-1) 1000000000000000) | exact QCl (within_ok x.notice 0 1000) | exact QCl (within_ok x.sink 0 1000) | exact QCl (within_ok x.majority 1 1000) | exact QCl (within_ok x.fast 1 1000)); exact rfl) | refine SX.Lit TYok (h := ?_) | refine SX.App TYok (h := ?_) | refine SX.Box TYok (h := ?_) | refine SC ?_ | (apply RG.gT; exact rfl; exact rfl; (first | assumption | decide)) | (apply RG.gF; exact rfl; exact rfl; (first | assumption | decide | (rw [ne_eq, Bool.not_eq_true]; assumption) | (rw [ne_eq, Bool.not_eq_false]; assumption)); exact rfl) | (refine W.condA (ht := fun hb => ?_) (hf := fun hb => ?_) <;> (try simp at hb) <;> (try (exfalso; omega))))
    · exact Fin.ret ResL.auto
    all_goals
      exfalso
      apply hh
      rw [hd_iff]
      simp_all
      done
  obtain ⟨h1, h2⟩ := hh
  have h1' := h1
  rw [hd_iff] at h1'
  obtain ⟨d1, d2, b1, a1, a2, a3, b2, b3, b4, b5, b6, c1, c2, c3, c4, c5, c6, d4, d3⟩ := h1'
  have e1 : rightN x = (uniqF (x.lets.map Let.name) 20 && uniqF (x.covs.map Cov.name) 20 && (!(x.lets.any badL || x.covs.any badV) && !(x.calls.any badC))) := by
    rw [rightN, midR, h1, h2, Bool.true_and, Bool.and_true]
  refine ACalls.of_W (qs := [cB (rightN x)]) [2] 207 Try.func32 (by kernel_rfl) rfl rfl rfl fun G => ?_
  refine W.initA (hw := ?_)
  repeat' (first | ((first | apply U_ | (apply Ug_; exact rfl; exact rfl) | (apply Ugq_; exact rfl; exact rfl)); (first | exact QX.B TYok | exact QX.Len TYok | exact QX.Idx TYok | exact QCl (g1) | exact QCl (g2) | exact QCl (g3) | exact QCd (g6) | exact QCl (within_ok x.face 1 1000000000000000) | exact QCl (within_ok x.start 0 200000) | exact QCl (within_ok x.due 0 200000) | exact QCl (within_ok x.every 1 120) | exact QCl (within_ok x.count 0 2) | exact QCl (within_ok x.adjust 0 3) | exact QCl (within_ok x.record 0 100) | exact QCl (within_ok x.rank 0 9) | exact QCl (within_ok x.cap 0 10000) | exact QCl (within_ok x.cross (-1) 1000000000000000) | exact QCl (within_ok x.notice 0 1000) | exact QCl (within_ok x.sink 0 1000) | exact QCl (within_ok x.majority 1 1000) | exact QCl (within_ok x.fast 1 1000)); exact rfl) | refine SX.Lit TYok (h := ?_) | refine SX.App TYok (h := ?_) | refine SX.Box TYok (h := ?_) | refine SC ?_ | (apply RG.gT; exact rfl; exact rfl; (first | assumption | decide)) | (apply RG.gF; exact rfl; exact rfl; (first | assumption | decide | (rw [ne_eq, Bool.not_eq_true]; assumption) | (rw [ne_eq, Bool.not_eq_false]; assumption)); exact rfl) | (refine W.condA (ht := fun hb => ?_) (hf := fun hb => ?_) <;> (try simp at hb) <;> (try (exfalso; omega))))
  · exfalso
    simp_all
    omega
  refine W.weaken (Le.nilOwn (t := 6) (n := 133) (E := 9) (sz := 1) rfl) ?_
  apply W.loopP (σ := Nat) 207 [1] (fun k => k ≤ x.lets.length ∧ (∀ j, j < k → badL (nth x.lets j) = false)) (fun k => [(6, (True, .slc 133)), (7, vI k)]) (fun k => [(1, ⟨30, 25, [encN x]⟩), (133, ⟨9, 1, ((x.lets.take k).map Let.name).map encS⟩)]) (fun k => x.lets.length - k) (0)
  case hp => repeat (first | exact Pick.nil | apply Pick.cons rfl)
  case h0 =>
    refine ⟨⟨by simp, fun j hj => absurd hj (by omega)⟩, ?_⟩
    exact Le.auto
  case round =>
    rintro k ⟨k1, k2⟩
    apply W.norm (by repeat (first | exact App.nil | apply App.cons))
    by_cases hk : k < x.lets.length
    · have hl : ((x.lets.take k).map Let.name).length ≤ 1000 := by simp; omega
      have ht := hm1 k hk
      generalize hgl : (x.lets.take k).map Let.name = nl at hl ht
      have q := rrightExp_ok (nth x.lets k).body (hx.lete _ (nth_mem hk))
      cases hc : rightF 12 (nth x.lets k).body with
      | false =>
        rw [hc] at q
        have e0 : rightN x = false := by rw [e1, any_yes hk (by rw [badL, hc]; rfl)]; simp
        rw [e0]
        repeat' (first | ((first | apply U_ | (apply Ug_; exact rfl; exact rfl) | (apply Ugq_; exact rfl; exact rfl)); (first | exact QX.B TYok | exact QX.Len TYok | exact QX.Idx TYok | exact QCd (q)); exact rfl) | refine SX.Lit TYok (h := ?_) | refine SX.App TYok (h := ?_) | refine SX.Box TYok (h := ?_) | refine SC ?_ | (apply RG.gT; exact rfl; exact rfl; (first | assumption | decide)) | (apply RG.gF; exact rfl; exact rfl; (first | assumption | decide | (rw [ne_eq, Bool.not_eq_true]; assumption) | (rw [ne_eq, Bool.not_eq_false]; assumption)); exact rfl) | (refine W.condA (ht := fun hb => ?_) (hf := fun hb => ?_) <;> (try simp at hb) <;> (try (exfalso; omega))))
        exact Fin.ret ResL.auto
      | true =>
        rw [hc] at q
        repeat' (first | ((first | apply U_ | (apply Ug_; exact rfl; exact rfl) | (apply Ugq_; exact rfl; exact rfl)); (first | exact QX.B TYok | exact QX.Len TYok | exact QX.Idx TYok | exact QCd (q)); exact rfl) | refine SX.Lit TYok (h := ?_) | refine SX.App TYok (h := ?_) | refine SX.Box TYok (h := ?_) | refine SC ?_ | (apply RG.gT; exact rfl; exact rfl; (first | assumption | decide)) | (apply RG.gF; exact rfl; exact rfl; (first | assumption | decide | (rw [ne_eq, Bool.not_eq_true]; assumption) | (rw [ne_eq, Bool.not_eq_false]; assumption)); exact rfl) | (refine W.condA (ht := fun hb => ?_) (hf := fun hb => ?_) <;> (try simp at hb) <;> (try (exfalso; omega))))
        refine ⟨k + 1, ⟨by omega, upto_fals (q := fun j => badL (nth x.lets j)) k2 (by rw [badL, hc]; rfl)⟩, ?_, ?_⟩
        · simp only [ht, List.map_append, List.map_cons, List.map_nil]
          exact Le.auto
        · (try simp only); omega
    · obtain rfl : k = x.lets.length := by omega
      have l1 := any_no k2
      simp only [List.take_length]
      repeat' (first | ((first | apply U_ | (apply Ug_; exact rfl; exact rfl) | (apply Ugq_; exact rfl; exact rfl)); (first | exact QX.B TYok | exact QX.Len TYok | exact QX.Idx TYok); exact rfl) | refine SX.Lit TYok (h := ?_) | refine SX.App TYok (h := ?_) | refine SX.Box TYok (h := ?_) | refine SC ?_ | (apply RG.gT; exact rfl; exact rfl; (first | assumption | decide)) | (apply RG.gF; exact rfl; exact rfl; (first | assumption | decide | (rw [ne_eq, Bool.not_eq_true]; assumption) | (rw [ne_eq, Bool.not_eq_false]; assumption)); exact rfl) | (refine W.condA (ht := fun hb => ?_) (hf := fun hb => ?_) <;> (try simp at hb) <;> (try (exfalso; omega))))
      refine W.weaken (Le.nilOwn (t := 8) (n := 157) (E := 9) (sz := 1) rfl) ?_
      apply W.loopP (σ := Nat) 207 [1] (fun k => k ≤ x.covs.length ∧ (∀ j, j < k → badV (nth x.covs j) = false)) (fun k => [(6, (True, .slc 133)), (8, (True, .slc 157)), (9, vI k)]) (fun k => [(1, ⟨30, 25, [encN x]⟩), (133, ⟨9, 1, (x.lets.map Let.name).map encS⟩), (157, ⟨9, 1, ((x.covs.take k).map Cov.name).map encS⟩)]) (fun k => x.covs.length - k) (0)
      case hp => repeat (first | exact Pick.nil | apply Pick.cons rfl)
      case h0 =>
        refine ⟨⟨by simp, fun j hj => absurd hj (by omega)⟩, ?_⟩
        exact Le.auto
      case round =>
        rintro k ⟨k1, k2⟩
        apply W.norm (by repeat (first | exact App.nil | apply App.cons))
        by_cases hk : k < x.covs.length
        · have hl : ((x.covs.take k).map Cov.name).length ≤ 1000 := by simp; omega
          have ht := hm2 k hk
          generalize hgl : (x.covs.take k).map Cov.name = nl at hl ht
          have q := rrightExp_ok (nth x.covs k).must (hx.cove _ (nth_mem hk))
          have q2 := within_ok (nth x.covs k).grace 0 1000
          have eb : badV (nth x.covs k) = (!rightF 12 (nth x.covs k).must || !inF 0 1000 (nth x.covs k).grace) := by simp [badV]
          cases hc : badV (nth x.covs k) with
          | true =>
            have e0 : rightN x = false := by rw [e1, any_yes hk hc]; simp
            rw [e0]
            repeat' (first | ((first | apply U_ | (apply Ug_; exact rfl; exact rfl) | (apply Ugq_; exact rfl; exact rfl)); (first | exact QX.B TYok | exact QX.Len TYok | exact QX.Idx TYok | exact QCd (q) | exact QCl (q2)); exact rfl) | refine SX.Lit TYok (h := ?_) | refine SX.App TYok (h := ?_) | refine SX.Box TYok (h := ?_) | refine SC ?_ | (apply RG.gT; exact rfl; exact rfl; (first | assumption | decide)) | (apply RG.gF; exact rfl; exact rfl; (first | assumption | decide | (rw [ne_eq, Bool.not_eq_true]; assumption) | (rw [ne_eq, Bool.not_eq_false]; assumption)); exact rfl) | (refine W.condA (ht := fun hb => ?_) (hf := fun hb => ?_) <;> (try simp at hb) <;> (try (exfalso; omega))))
            · exact Fin.ret ResL.auto
            all_goals (exfalso; rw [hc, hb.1, hb.2] at eb; cases eb)
          | false =>
            rw [hc] at eb
            have eb := eb.symm
            simp only [Bool.or_eq_false_iff, Bool.not_eq_false'] at eb
            rw [eb.1] at q
            rw [eb.2] at q2
            repeat' (first | ((first | apply U_ | (apply Ug_; exact rfl; exact rfl) | (apply Ugq_; exact rfl; exact rfl)); (first | exact QX.B TYok | exact QX.Len TYok | exact QX.Idx TYok | exact QCd (q) | exact QCl (q2)); exact rfl) | refine SX.Lit TYok (h := ?_) | refine SX.App TYok (h := ?_) | refine SX.Box TYok (h := ?_) | refine SC ?_ | (apply RG.gT; exact rfl; exact rfl; (first | assumption | decide)) | (apply RG.gF; exact rfl; exact rfl; (first | assumption | decide | (rw [ne_eq, Bool.not_eq_true]; assumption) | (rw [ne_eq, Bool.not_eq_false]; assumption)); exact rfl) | (refine W.condA (ht := fun hb => ?_) (hf := fun hb => ?_) <;> (try simp at hb) <;> (try (exfalso; omega))))
            refine ⟨k + 1, ⟨by omega, upto_fals (q := fun j => badV (nth x.covs j)) k2 hc⟩, ?_, ?_⟩
            · simp only [ht, List.map_append, List.map_cons, List.map_nil]
              exact Le.auto
            · (try simp only); omega
        · obtain rfl : k = x.covs.length := by omega
          have l2 := any_no k2
          simp only [List.take_length]
          repeat' (first | ((first | apply U_ | (apply Ug_; exact rfl; exact rfl) | (apply Ugq_; exact rfl; exact rfl)); (first | exact QX.B TYok | exact QX.Len TYok | exact QX.Idx TYok); exact rfl) | refine SX.Lit TYok (h := ?_) | refine SX.App TYok (h := ?_) | refine SX.Box TYok (h := ?_) | refine SC ?_ | (apply RG.gT; exact rfl; exact rfl; (first | assumption | decide)) | (apply RG.gF; exact rfl; exact rfl; (first | assumption | decide | (rw [ne_eq, Bool.not_eq_true]; assumption) | (rw [ne_eq, Bool.not_eq_false]; assumption)); exact rfl) | (refine W.condA (ht := fun hb => ?_) (hf := fun hb => ?_) <;> (try simp at hb) <;> (try (exfalso; omega))))
          apply W.loopP (σ := Nat) 207 [1] (fun k => k ≤ x.calls.length ∧ (∀ j, j < k → badC (nth x.calls j) = false)) (fun k => [(6, (True, .slc 133)), (8, (True, .slc 157)), (10, vI k)]) (fun k => [(1, ⟨30, 25, [encN x]⟩), (133, ⟨9, 1, (x.lets.map Let.name).map encS⟩), (157, ⟨9, 1, (x.covs.map Cov.name).map encS⟩)]) (fun k => x.calls.length - k) (0)
          case hp => repeat (first | exact Pick.nil | apply Pick.cons rfl)
          case h0 =>
            refine ⟨⟨by simp, fun j hj => absurd hj (by omega)⟩, ?_⟩
            exact Le.auto
          case round =>
            rintro k ⟨k1, k2⟩
            apply W.norm (by repeat (first | exact App.nil | apply App.cons))
            by_cases hk : k < x.calls.length
            · have q := within_ok (nth x.calls k).day 0 200000
              have q2 := within_ok (nth x.calls k).price 0 10000
              have eb : badC (nth x.calls k) = (!inF 0 200000 (nth x.calls k).day || !inF 0 10000 (nth x.calls k).price) := by simp [badC]
              cases hc : badC (nth x.calls k) with
              | true =>
                have e0 : rightN x = false := by rw [e1, any_yes hk hc]; simp
                rw [e0]
                repeat' (first | ((first | apply U_ | (apply Ug_; exact rfl; exact rfl) | (apply Ugq_; exact rfl; exact rfl)); (first | exact QX.B TYok | exact QX.Len TYok | exact QX.Idx TYok | exact QCl (q) | exact QCl (q2)); exact rfl) | refine SX.Lit TYok (h := ?_) | refine SX.App TYok (h := ?_) | refine SX.Box TYok (h := ?_) | refine SC ?_ | (apply RG.gT; exact rfl; exact rfl; (first | assumption | decide)) | (apply RG.gF; exact rfl; exact rfl; (first | assumption | decide | (rw [ne_eq, Bool.not_eq_true]; assumption) | (rw [ne_eq, Bool.not_eq_false]; assumption)); exact rfl) | (refine W.condA (ht := fun hb => ?_) (hf := fun hb => ?_) <;> (try simp at hb) <;> (try (exfalso; omega))))
                · exact Fin.ret ResL.auto
                all_goals (exfalso; rw [hc, hb.1, hb.2] at eb; cases eb)
              | false =>
                rw [hc] at eb
                have eb := eb.symm
                simp only [Bool.or_eq_false_iff, Bool.not_eq_false'] at eb
                rw [eb.1] at q
                rw [eb.2] at q2
                repeat' (first | ((first | apply U_ | (apply Ug_; exact rfl; exact rfl) | (apply Ugq_; exact rfl; exact rfl)); (first | exact QX.B TYok | exact QX.Len TYok | exact QX.Idx TYok | exact QCl (q) | exact QCl (q2)); exact rfl) | refine SX.Lit TYok (h := ?_) | refine SX.App TYok (h := ?_) | refine SX.Box TYok (h := ?_) | refine SC ?_ | (apply RG.gT; exact rfl; exact rfl; (first | assumption | decide)) | (apply RG.gF; exact rfl; exact rfl; (first | assumption | decide | (rw [ne_eq, Bool.not_eq_true]; assumption) | (rw [ne_eq, Bool.not_eq_false]; assumption)); exact rfl) | (refine W.condA (ht := fun hb => ?_) (hf := fun hb => ?_) <;> (try simp at hb) <;> (try (exfalso; omega))))
                refine ⟨k + 1, ⟨by omega, upto_fals (q := fun j => badC (nth x.calls j)) k2 hc⟩, ?_, ?_⟩
                · exact Le.auto
                · (try simp only); omega
            · obtain rfl : k = x.calls.length := by omega
              have l3 := any_no k2
              have e2 : rightN x = (uniqF (x.lets.map Let.name) 20 && uniqF (x.covs.map Cov.name) 20) := by
                rw [e1, l1, l2, l3]; simp
              rw [e2]
              repeat' (first | ((first | apply U_ | (apply Ug_; exact rfl; exact rfl) | (apply Ugq_; exact rfl; exact rfl)); (first | exact QX.B TYok | exact QX.Len TYok | exact QX.Idx TYok | exact QCl (g4) | exact QCl (g5)); exact rfl) | refine SX.Lit TYok (h := ?_) | refine SX.App TYok (h := ?_) | refine SX.Box TYok (h := ?_) | refine SC ?_ | (apply RG.gT; exact rfl; exact rfl; (first | assumption | decide)) | (apply RG.gF; exact rfl; exact rfl; (first | assumption | decide | (rw [ne_eq, Bool.not_eq_true]; assumption) | (rw [ne_eq, Bool.not_eq_false]; assumption)); exact rfl) | (refine W.condA (ht := fun hb => ?_) (hf := fun hb => ?_) <;> (try simp at hb) <;> (try (exfalso; omega))))
              exact Fin.ret ResL.auto
end
end Go.Proofs.Ytppdbmobcfedcaa
end
section
namespace Lf
open Go
variable {P : Program} {G : Ghost}
theorem Q_callB {n0 : Nat} {env : List (Nat × (Prop × AV))} {bl : List (Nat × Blk)} {p : Prop} {dst : Option Nat} {ty : TypeId} {pos : String} {after : Array Edge} {gd : Option (Nat × Bool)} {f : FuncId} {xs : List Operand} {ats : Array TypeId} {ps : List PV} {r : AV} (r' : AV)
    (hc : ACalls P f ps r) (hr : AV.blur r = r') (hx : EvL (St.mk n0 env bl) p xs ps) : PureOp P G (St.mk n0 env bl) ⟨dst, .call ⟨.value (.func f), xs.toArray, ats⟩, ty, pos, after, gd⟩ p r' := fun Φ β a w hs hp => by
  subst hr
  unfold Oper.wp
  rw [call_run rfl hc.fn]
  refine Calls.mono (hc.calls (frzAll Φ β bl w) w _ hs.frz_fits ⟨by simp [evl_len hx], fun j q hq => ?_⟩) ?_
  · obtain ⟨y, h1, h2⟩ := evl_args hs hp hx j q hq
    exact ⟨a.eval y, by simp [h1], h2⟩
  · rintro e w' ⟨v, Φ', rfl, hv, hle, heq, hfit, hb⟩
    refine ⟨v, Φ, rfl, hv.blur, Φ.le_refl, fun _ _ => rfl, fun b c h => ?_, hb⟩
    obtain ⟨E, fz, hw⟩ := hs.fits b c h
    exact ⟨E, fz, by rw [hb.block b (Array.getElem?_eq_some_iff.1 hw).1]; exact hw⟩
end Lf
end
section
set_option linter.unusedVariables false
set_option linter.unusedSimpArgs false
set_option maxHeartbeats 8000000
set_option linter.unusedSectionVars false
namespace Go.Proofs.Ytppdbmobcfedcaa
open Lf Go
attribute [local irreducible] PureOp EffOp Ev RG W Then InBlock Lf.Fin nth App InitE Pick SubE EvL EvD EvP EvR ResL Lf.Lex SubR SubBR RA RAll EvC FinO FinM ResM
section
variable {L lets : List Let} {us : List Int}
theorem rof_bad (hl : LIn lets) {e : Exp} (he : OkE e) (hc : ¬ ofC lets e = true) {a0 a1 a2 a3 a4 a5 a6 a7 a8 a9 a11 a12 a13 a14 a15 a16 a17 a18 a19 a20 a21 a22 a23 a24 : Cell} : ACalls Try.prog 9 [.agg [a0, a1, a2, a3, a4, a5, a6, a7, a8, a9, .sl (lets.map encL), a11, a12, a13, a14, a15, a16, a17, a18, a19, a20, a21, a22, a23, a24], aE e] (.tup [cI 0, .one (.sl []), cI 1]) := by
  have h1 := rrightExp_ok e he
  have h2 : ∀ k, k < lets.length → ACalls Try.prog 28 [aE (nth lets k).body] (.pv (cB (rightF 12 (nth lets k).body))) := fun k hk => rrightExp_ok _ (hl.ok _ (nth_mem hk))
  have hq : rightF 12 e = true → lets.length ≤ 20 → ¬ ∀ j, j < lets.length → rightF 12 (nth lets j).body = true := fun q1 q2 q3 => hc (ofC_of q2 q1 fun y hy => by
    obtain ⟨j, hj, rfl⟩ := List.getElem_of_mem hy
    rw [← nth_eq hj]
    exact q3 j hj)
  clear hc
  have hlen := hl.len
  cases hb1 : rightF 12 e with
  | false =>
    rw [hb1] at h1
    obtain ⟨op, k, u, s, l⟩ := e
    refine ACalls.of_W (qs := [cI 0, .one (.sl []), cI 1]) [4, 5, 6] 81 Try.func9 (by kernel_rfl) rfl rfl rfl fun G => ?_
    refine W.initA (hw := ?_)
    repeat' (first | ((first | apply U_ | (apply Ug_; exact rfl; exact rfl) | (apply Ugq_; exact rfl; exact rfl) | apply Lex.u | (apply Lex.g; exact rfl; exact rfl) | (apply Lex.gq; exact rfl; exact rfl)); (first | exact QX.B TYok | exact QX.Len TYok | exact QX.Idx TYok | exact QCd (h1)); exact rfl) | refine SX.Alloc TYok (h := ?_) | refine SX.Store TYok (h := ?_) | refine SX.Lit TYok (h := ?_) | refine SX.App TYok (h := ?_) | refine SX.Box TYok (h := ?_) | refine SC ?_ | (apply RG.gT; exact rfl; exact rfl; (first | assumption | decide)) | (apply RG.gF; exact rfl; exact rfl; (first | assumption | decide | (rw [ne_eq, Bool.not_eq_true]; assumption) | (rw [ne_eq, Bool.not_eq_false]; assumption)); exact rfl) | (apply W.draw2 (id := 19) [0, 1, 0, 4, 0, 16, 3, 79, 255] [[12], [75], [12], [77], [12], [79], [76], [78], [80]] 9 [(75, 4096), (76, 37778931862957161709568), (77, 4096), (78, 151115727451828646838272), (79, 4096), (80, 604462909807314587353088), (4, 75557863725914323419136), (5, 302231454903657293676544), (6, 1208925819614629174706176)] mixed (by kernel_rfl) rfl rfl) | (refine W.condA (ht := fun hb => ?_) (hf := fun hb => ?_) <;> (try simp at hb) <;> (try (exfalso; omega))))
    all_goals first
      | exact Fin.ret ResL.auto
      | (exfalso; omega)
      | trace_state
  | true =>
    rw [hb1] at h1
    have hq1 := hq hb1
    clear hq
    obtain ⟨op, k, u, s, l⟩ := e
    by_cases h20 : lets.length ≤ 20
    case neg =>
      refine ACalls.of_W (qs := [cI 0, .one (.sl []), cI 1]) [4, 5, 6] 81 Try.func9 (by kernel_rfl) rfl rfl rfl fun G => ?_
      refine W.initA (hw := ?_)
      repeat' (first | ((first | apply U_ | (apply Ug_; exact rfl; exact rfl) | (apply Ugq_; exact rfl; exact rfl) | apply Lex.u | (apply Lex.g; exact rfl; exact rfl) | (apply Lex.gq; exact rfl; exact rfl)); (first | exact QX.B TYok | exact QX.Len TYok | exact QX.Idx TYok | exact QCd (h1)); exact rfl) | refine SX.Alloc TYok (h := ?_) | refine SX.Store TYok (h := ?_) | refine SX.Lit TYok (h := ?_) | refine SX.App TYok (h := ?_) | refine SX.Box TYok (h := ?_) | refine SC ?_ | (apply RG.gT; exact rfl; exact rfl; (first | assumption | decide)) | (apply RG.gF; exact rfl; exact rfl; (first | assumption | decide | (rw [ne_eq, Bool.not_eq_true]; assumption) | (rw [ne_eq, Bool.not_eq_false]; assumption)); exact rfl) | (apply W.draw2 (id := 19) [0, 1, 0, 4, 0, 16, 3, 79, 255] [[12], [75], [12], [77], [12], [79], [76], [78], [80]] 9 [(75, 4096), (76, 37778931862957161709568), (77, 4096), (78, 151115727451828646838272), (79, 4096), (80, 604462909807314587353088), (4, 75557863725914323419136), (5, 302231454903657293676544), (6, 1208925819614629174706176)] mixed (by kernel_rfl) rfl rfl) | (refine W.condA (ht := fun hb => ?_) (hf := fun hb => ?_) <;> (try simp at hb) <;> (try (exfalso; omega))))
      all_goals first
        | exact Fin.ret ResL.auto
        | (exfalso; omega)
        | trace_state
    case pos =>
      have hq2 := hq1 h20
      refine ACalls.of_W (qs := [cI 0, .one (.sl []), cI 1]) [4, 5, 6] 81 Try.func9 (by kernel_rfl) rfl rfl rfl fun G => ?_
      refine W.initA (hw := ?_)
      repeat' (first | (refine W.weaken (Le.freeze1 (m := 2) rfl) ?_) | (refine W.weaken (Le.freeze1 (m := 3) rfl) ?_) | (refine W.purgeR [(1, [2, 3]), (3, [2, 3])] rfl (by repeat (first | exact PN.nil | apply PN.po rfl | (apply PN.pa; exact rfl; (repeat (first | (apply NR.cons; exact rfl) | exact NR.nil rfl))) | apply PN.a rfl | apply PN.s rfl | apply PN.u rfl | apply PN.m rfl | apply PN.k rfl | apply PN.i rfl | apply PN.skip)) (by repeat (first | exact PB.nil | (apply PB.one; exact rfl; (focus (first | (dsimp only; done) | (dsimp only; exact rfl) | exact rfl)); (focus (first | (dsimp only; done) | (dsimp only; exact rfl) | exact rfl)); exact rfl; (repeat (first | (apply NR.cons; exact rfl) | exact NR.nil rfl)))  | apply PB.cons rfl)) ?_) | ((first | apply U_ | (apply Ug_; exact rfl; exact rfl) | (apply Ugq_; exact rfl; exact rfl) | apply Lex.u | (apply Lex.g; exact rfl; exact rfl) | (apply Lex.gq; exact rfl; exact rfl)); (first | exact QX.B TYok | exact QX.Len TYok | exact QX.Idx TYok | exact QCd (h1)); exact rfl) | refine SX.Alloc TYok (h := ?_) | refine SX.Store TYok (h := ?_) | refine SX.Lit TYok (h := ?_) | refine SX.App TYok (h := ?_) | refine SX.Box TYok (h := ?_) | refine SC ?_ | (apply RG.gT; exact rfl; exact rfl; (first | assumption | decide)) | (apply RG.gF; exact rfl; exact rfl; (first | assumption | decide | (rw [ne_eq, Bool.not_eq_true]; assumption) | (rw [ne_eq, Bool.not_eq_false]; assumption)); exact rfl) | (apply W.draw2 (id := 19) [0, 1, 0, 4, 0, 16, 3, 79, 255] [[12], [75], [12], [77], [12], [79], [76], [78], [80]] 9 [(75, 4096), (76, 37778931862957161709568), (77, 4096), (78, 151115727451828646838272), (79, 4096), (80, 604462909807314587353088), (4, 75557863725914323419136), (5, 302231454903657293676544), (6, 1208925819614629174706176)] mixed (by kernel_rfl) rfl rfl) | (refine W.condA (ht := fun hb => ?_) (hf := fun hb => ?_) <;> (try simp at hb) <;> (try (exfalso; omega))))
      apply W.loopP (σ := Nat) 81 [2, 3] (fun k => k ≤ lets.length ∧ ∀ j, j < k → rightF 12 (nth lets j).body = true) (fun k => [(7, vI k)]) (fun _ => []) (fun k => lets.length - k) (0)
      case hp => repeat (first | exact Pick.nil | apply Pick.cons rfl)
      case h0 =>
        refine ⟨⟨by simp, fun j hj => absurd hj (by omega)⟩, ?_⟩
        exact Le.auto
      case round =>
        rintro k ⟨g1, g2⟩
        apply W.norm (by repeat (first | exact App.nil | apply App.cons))
        by_cases hk : k < lets.length
        · have c := h2 k hk
          cases hz : rightF 12 (nth lets k).body with
          | false =>
            rw [hz] at c
            repeat' (first | ((first | apply U_ | (apply Ug_; exact rfl; exact rfl) | (apply Ugq_; exact rfl; exact rfl) | apply Lex.u | (apply Lex.g; exact rfl; exact rfl) | (apply Lex.gq; exact rfl; exact rfl)); (first | exact QX.B TYok | exact QX.Len TYok | exact QX.Idx TYok | exact QCd (c)); exact rfl) | refine SX.Alloc TYok (h := ?_) | refine SX.Store TYok (h := ?_) | refine SX.Lit TYok (h := ?_) | refine SX.App TYok (h := ?_) | refine SX.Box TYok (h := ?_) | refine SC ?_ | (apply RG.gT; exact rfl; exact rfl; (first | assumption | decide)) | (apply RG.gF; exact rfl; exact rfl; (first | assumption | decide | (rw [ne_eq, Bool.not_eq_true]; assumption) | (rw [ne_eq, Bool.not_eq_false]; assumption)); exact rfl) | (apply W.draw2 (id := 19) [0, 1, 0, 4, 0, 16, 3, 79, 255] [[12], [75], [12], [77], [12], [79], [76], [78], [80]] 9 [(75, 4096), (76, 37778931862957161709568), (77, 4096), (78, 151115727451828646838272), (79, 4096), (80, 604462909807314587353088), (4, 75557863725914323419136), (5, 302231454903657293676544), (6, 1208925819614629174706176)] mixed (by kernel_rfl) rfl rfl) | (refine W.condA (ht := fun hb => ?_) (hf := fun hb => ?_) <;> (try simp at hb) <;> (try (exfalso; omega))))
            all_goals first
              | exact Fin.ret ResL.auto
              | (exfalso; omega)
              | trace_state
          | true =>
            rw [hz] at c
            repeat' (first | ((first | apply U_ | (apply Ug_; exact rfl; exact rfl) | (apply Ugq_; exact rfl; exact rfl) | apply Lex.u | (apply Lex.g; exact rfl; exact rfl) | (apply Lex.gq; exact rfl; exact rfl)); (first | exact QX.B TYok | exact QX.Len TYok | exact QX.Idx TYok | exact QCd (c)); exact rfl) | refine SX.Alloc TYok (h := ?_) | refine SX.Store TYok (h := ?_) | refine SX.Lit TYok (h := ?_) | refine SX.App TYok (h := ?_) | refine SX.Box TYok (h := ?_) | refine SC ?_ | (apply RG.gT; exact rfl; exact rfl; (first | assumption | decide)) | (apply RG.gF; exact rfl; exact rfl; (first | assumption | decide | (rw [ne_eq, Bool.not_eq_true]; assumption) | (rw [ne_eq, Bool.not_eq_false]; assumption)); exact rfl) | (apply W.draw2 (id := 19) [0, 1, 0, 4, 0, 16, 3, 79, 255] [[12], [75], [12], [77], [12], [79], [76], [78], [80]] 9 [(75, 4096), (76, 37778931862957161709568), (77, 4096), (78, 151115727451828646838272), (79, 4096), (80, 604462909807314587353088), (4, 75557863725914323419136), (5, 302231454903657293676544), (6, 1208925819614629174706176)] mixed (by kernel_rfl) rfl rfl) | (refine W.condA (ht := fun hb => ?_) (hf := fun hb => ?_) <;> (try simp at hb) <;> (try (exfalso; omega))))
            all_goals first
              | (refine ⟨k + 1, ⟨by omega, fun j hj => ?_⟩, ?_, by (try simp only); omega⟩
                 · by_cases e : j = k
                   · subst e; exact hz
                   · exact g2 j (by omega)
                 · exact Le.auto)
              | (exfalso; omega)
              | trace_state
        · obtain rfl : k = lets.length := by omega
          exact (hq2 g2).elim
theorem rof_yes (hl : LIn lets) {e : Exp} (he : OkE e) (hc : ofC lets e = true) (T : OT) (hT : URP (ofU lets (tabU lets lets.length) e []) = rvP T.u T.p T.e) {a0 a1 a2 a3 a4 a5 a6 a7 a8 a9 a11 a12 a13 a14 a15 a16 a17 a18 a19 a20 a21 a22 a23 a24 : Cell} : ACalls Try.prog 9 [.agg [a0, a1, a2, a3, a4, a5, a6, a7, a8, a9, .sl (lets.map encL), a11, a12, a13, a14, a15, a16, a17, a18, a19, a20, a21, a22, a23, a24], aE e] (otP T) := by
  obtain ⟨q2, q1, hr⟩ := ofC_yes hc
  have h1 := rrightExp_ok e he
  rw [q1] at h1
  have h2 : ∀ k, k < lets.length → ACalls Try.prog 28 [aE (nth lets k).body] (.pv (cB true)) := fun k hk => by
    have := rrightExp_ok _ (hl.ok _ (nth_mem hk))
    rw [hr _ (nth_mem hk)] at this
    exact this
  have h3 : ∀ k, k < lets.length → ACalls Try.prog 29 [lnS (lets.take k), slJ (tabU lets k), aE (nth lets k).body] (.pv (URP (ofU (lets.take k) (tabU lets k) (nth lets k).body []))) := fun k hk =>
    rnode_ok (by rw [List.length_take]; omega) (by rw [tabU_len, List.length_take]; omega) (tab_in hr k (by omega)) 12 _ (by omega) (hr _ (nth_mem hk))
  have h4 := rnode_ok (L := lets) (us := tabU lets lets.length) (by omega) (tabU_len _ _) (tab_in hr _ (by omega)) 12 e (by omega) q1
  rw [hT] at h4
  have er : ∀ k, k < lets.length → ∀ p x, ofU (lets.take k) (tabU lets k) (nth lets k).body [] = .bad p x → x ≠ 0 := fun k hk p x hx => by
    have := place_law (L := lets.take k) (us := tabU lets k) (tab_in hr k (by omega)) (by rw [tabU_len, List.length_take]; omega) 12 _ (hr _ (nth_mem hk))
    rw [hx] at this
    have := this.er
    omega
  have hm1 : ∀ k, k < lets.length → ((lets.take (k + 1)).map Let.name).map encS = ((lets.take k).map Let.name).map encS ++ [[.str (nth lets k).name]] := fun k hk => by rw [take_nth hk]; simp; rfl
  have hmo : ∀ k u, ofU (lets.take k) (tabU lets k) (nth lets k).body [] = .ok u → (tabU lets (k + 1)).map encJ = (tabU lets k).map encJ ++ [[.int .i64 u]] := fun k u h => by
    rw [tabU, List.map_append, h]; rfl
  have hmb : ∀ k p x, ofU (lets.take k) (tabU lets k) (nth lets k).body [] = .bad p x → x ≠ 0 → (tabU lets (k + 1)).map encJ = (tabU lets k).map encJ ++ [[.int .i64 (-1)]] := fun k p x h hx => by
    rw [tabU, List.map_append, h]
    show _ ++ [[Cell.int .i64 (if x = 0 then 0 else -1)]] = _
    rw [if_neg hx]
  have hl1 : ∀ k, k ≤ lets.length → (((lets.take k).map Let.name).map encS).length = k := fun k hk => by simp; omega
  have hl2 : ∀ k, ((tabU lets k).map encJ).length = k := fun k => by rw [List.length_map, tabU_len]
  obtain ⟨Tu, Tp, Te⟩ := T
  unfold otP
  dsimp only at h4 ⊢
  obtain ⟨op, k0, u0, s0, l0⟩ := e
  refine ACalls.of_W (qs := [cI Tu, .one (.sl (Tp.map encJ)), cI Te]) [4, 5, 6] 81 Try.func9 (by kernel_rfl) rfl rfl rfl fun G => ?_
  refine W.initA (hw := ?_)
  repeat' (first | (refine W.weaken (Le.freeze1 (m := 2) rfl) ?_) | (refine W.weaken (Le.freeze1 (m := 3) rfl) ?_) | (refine W.purgeR [(1, [2, 3]), (3, [2, 3])] rfl (by repeat (first | exact PN.nil | apply PN.po rfl | (apply PN.pa; exact rfl; (repeat (first | (apply NR.cons; exact rfl) | exact NR.nil rfl))) | apply PN.a rfl | apply PN.s rfl | apply PN.u rfl | apply PN.m rfl | apply PN.k rfl | apply PN.i rfl | apply PN.skip)) (by repeat (first | exact PB.nil | (apply PB.one; exact rfl; (focus (first | (dsimp only; done) | (dsimp only; exact rfl) | exact rfl)); (focus (first | (dsimp only; done) | (dsimp only; exact rfl) | exact rfl)); exact rfl; (repeat (first | (apply NR.cons; exact rfl) | exact NR.nil rfl)))  | apply PB.cons rfl)) ?_) | ((first | apply U_ | (apply Ug_; exact rfl; exact rfl) | (apply Ugq_; exact rfl; exact rfl) | apply Lex.u | (apply Lex.g; exact rfl; exact rfl) | (apply Lex.gq; exact rfl; exact rfl)); (first | exact QX.B TYok | exact QX.Len TYok | exact QX.Idx TYok | exact QCd (h1)); exact rfl) | refine SX.Alloc TYok (h := ?_) | refine SX.Store TYok (h := ?_) | refine SX.Lit TYok (h := ?_) | refine SX.App TYok (h := ?_) | refine SX.Box TYok (h := ?_) | refine SC ?_ | (apply RG.gT; exact rfl; exact rfl; (first | assumption | decide)) | (apply RG.gF; exact rfl; exact rfl; (first | assumption | decide | (rw [ne_eq, Bool.not_eq_true]; assumption) | (rw [ne_eq, Bool.not_eq_false]; assumption)); exact rfl) | (apply W.draw2 (id := 19) [0, 1, 0, 4, 0, 16, 3, 79, 255] [[12], [75], [12], [77], [12], [79], [76], [78], [80]] 9 [(75, 4096), (76, 37778931862957161709568), (77, 4096), (78, 151115727451828646838272), (79, 4096), (80, 604462909807314587353088), (4, 75557863725914323419136), (5, 302231454903657293676544), (6, 1208925819614629174706176)] mixed (by kernel_rfl) rfl rfl) | (refine W.condA (ht := fun hb => ?_) (hf := fun hb => ?_) <;> (try simp at hb) <;> (try (exfalso; omega))))
  all_goals first
    | (exfalso; omega)
    | skip
  apply W.loopP (σ := Nat) 81 [2, 3] (fun k => k ≤ lets.length) (fun k => [(7, vI k)]) (fun _ => []) (fun k => lets.length - k) (0)
  case hp => repeat (first | exact Pick.nil | apply Pick.cons rfl)
  case h0 =>
    refine ⟨by simp, ?_⟩
    exact Le.auto
  case round =>
    rintro k g1
    apply W.norm (by repeat (first | exact App.nil | apply App.cons))
    by_cases hk : k < lets.length
    · have c := h2 k hk
      repeat' (first | ((first | apply U_ | (apply Ug_; exact rfl; exact rfl) | (apply Ugq_; exact rfl; exact rfl) | apply Lex.u | (apply Lex.g; exact rfl; exact rfl) | (apply Lex.gq; exact rfl; exact rfl)); (first | exact QX.B TYok | exact QX.Len TYok | exact QX.Idx TYok | exact QCd (c)); exact rfl) | refine SX.Alloc TYok (h := ?_) | refine SX.Store TYok (h := ?_) | refine SX.Lit TYok (h := ?_) | refine SX.App TYok (h := ?_) | refine SX.Box TYok (h := ?_) | refine SC ?_ | (apply RG.gT; exact rfl; exact rfl; (first | assumption | decide)) | (apply RG.gF; exact rfl; exact rfl; (first | assumption | decide | (rw [ne_eq, Bool.not_eq_true]; assumption) | (rw [ne_eq, Bool.not_eq_false]; assumption)); exact rfl) | (apply W.draw2 (id := 19) [0, 1, 0, 4, 0, 16, 3, 79, 255] [[12], [75], [12], [77], [12], [79], [76], [78], [80]] 9 [(75, 4096), (76, 37778931862957161709568), (77, 4096), (78, 151115727451828646838272), (79, 4096), (80, 604462909807314587353088), (4, 75557863725914323419136), (5, 302231454903657293676544), (6, 1208925819614629174706176)] mixed (by kernel_rfl) rfl rfl) | (refine W.condA (ht := fun hb => ?_) (hf := fun hb => ?_) <;> (try simp at hb) <;> (try (exfalso; omega))))
      all_goals first
        | (refine ⟨k + 1, by omega, ?_, by (try simp only); omega⟩; exact Le.auto)
        | (exfalso; omega)
        | trace_state
    · obtain rfl : k = lets.length := by omega
      repeat' (first | ((first | apply U_ | (apply Ug_; exact rfl; exact rfl) | (apply Ugq_; exact rfl; exact rfl) | apply Lex.u | (apply Lex.g; exact rfl; exact rfl) | (apply Lex.gq; exact rfl; exact rfl)); (first | exact QX.B TYok | exact QX.Len TYok | exact QX.Idx TYok); exact rfl) | refine SX.Alloc TYok (h := ?_) | refine SX.Store TYok (h := ?_) | refine SX.Lit TYok (h := ?_) | refine SX.App TYok (h := ?_) | refine SX.Box TYok (h := ?_) | refine SC ?_ | (apply RG.gT; exact rfl; exact rfl; (first | assumption | decide)) | (apply RG.gF; exact rfl; exact rfl; (first | assumption | decide | (rw [ne_eq, Bool.not_eq_true]; assumption) | (rw [ne_eq, Bool.not_eq_false]; assumption)); exact rfl) | (apply W.draw2 (id := 19) [0, 1, 0, 4, 0, 16, 3, 79, 255] [[12], [75], [12], [77], [12], [79], [76], [78], [80]] 9 [(75, 4096), (76, 37778931862957161709568), (77, 4096), (78, 151115727451828646838272), (79, 4096), (80, 604462909807314587353088), (4, 75557863725914323419136), (5, 302231454903657293676544), (6, 1208925819614629174706176)] mixed (by kernel_rfl) rfl rfl) | (refine W.condA (ht := fun hb => ?_) (hf := fun hb => ?_) <;> (try simp at hb) <;> (try (exfalso; omega))))
      refine W.weaken (Le.nilOwn (t := 8) (n := 65) (E := 9) (sz := 1) rfl) ?_
      refine W.weaken (Le.nilOwn (t := 9) (n := 70) (E := 3) (sz := 1) rfl) ?_
      apply W.loopP (σ := Nat) 81 [2, 3] (fun k => k ≤ lets.length) (fun k => [(8, vS 65), (9, vS 70), (10, vI k)]) (fun k => [(65, ⟨9, 1, ((lets.take k).map Let.name).map encS⟩), (70, ⟨3, 1, (tabU lets k).map encJ⟩)]) (fun k => lets.length - k) (0)
      case hp => repeat (first | exact Pick.nil | apply Pick.cons rfl)
      case h0 =>
        refine ⟨by simp, ?_⟩
        exact Le.auto
      case round =>
        rintro k g1
        apply W.norm (by repeat (first | exact App.nil | apply App.cons))
        have z1 := hl1 k g1
        have z2 := hl2 k
        by_cases hk : k < lets.length
        · have c := h3 k hk
          have e1 := hm1 k hk
          have e3 := er k hk
          cases hR : ofU (lets.take k) (tabU lets k) (nth lets k).body [] with
          | ok u =>
            have e2 := hmo k u hR
            rw [hR] at c
            dsimp only [URP] at c
            simp only [lnS, slJ] at c
            generalize ((lets.take k).map Let.name).map encS = N at *
            generalize (tabU lets k).map encJ = V at *
            repeat' (first | (refine W.purgeR [(13, [2, 3, 8, 9, 10]), (14, [2, 3, 8, 9, 10, 11]), (16, [2, 3, 8, 9, 10, 11])] rfl (by repeat (first | exact PN.nil | apply PN.po rfl | (apply PN.pa; exact rfl; (repeat (first | (apply NR.cons; exact rfl) | exact NR.nil rfl))) | apply PN.a rfl | apply PN.s rfl | apply PN.u rfl | apply PN.m rfl | apply PN.k rfl | apply PN.i rfl | apply PN.skip)) (by repeat (first | exact PB.nil | (apply PB.one; exact rfl; (focus (first | (dsimp only; done) | (dsimp only; exact rfl) | exact rfl)); (focus (first | (dsimp only; done) | (dsimp only; exact rfl) | exact rfl)); exact rfl; (repeat (first | (apply NR.cons; exact rfl) | exact NR.nil rfl)))  | apply PB.cons rfl)) ?_) | ((first | apply U_ | (apply Ug_; exact rfl; exact rfl) | (apply Ugq_; exact rfl; exact rfl) | apply Lex.u | (apply Lex.g; exact rfl; exact rfl) | (apply Lex.gq; exact rfl; exact rfl)); (first | (apply Q_callB (.pv (.agg [.int .i64 u, .unk, .int .i64 0])) c; exact rfl; exact EvL.auto) | (apply Q_litD TYok; (repeat (first | exact EvR.nil | apply EvR.cons Ev.auto)); exact rfl; exact rfl; exact rfl; exact rfl; exact rfl; exact rfl) | exact QX.B TYok | exact QX.Len TYok | exact QX.Idx TYok); exact rfl) | refine SX.Alloc TYok (h := ?_) | refine SX.Store TYok (h := ?_) | refine SX.Lit TYok (h := ?_) | refine SX.App TYok (h := ?_) | refine SX.Box TYok (h := ?_) | (apply S_appendd TYok; exact Ev.auto; exact Ev.auto; exact rfl; exact rfl; exact rfl; exact rfl; exact rfl; exact rfl; exact rfl; exact rfl; (intro r hr; first | (obtain ⟨_, _, rfl⟩ := List.mem_map.1 hr; rfl) | (obtain rfl := List.mem_singleton.1 hr; rfl)); (constructor <;> simp <;> omega); exact rfl) | refine SC ?_ | (apply RG.gT; exact rfl; exact rfl; (first | assumption | decide)) | (apply RG.gF; exact rfl; exact rfl; (first | assumption | decide | (rw [ne_eq, Bool.not_eq_true]; assumption) | (rw [ne_eq, Bool.not_eq_false]; assumption)); exact rfl) | (apply W.draw2 (id := 19) [0, 1, 0, 4, 0, 16, 3, 79, 255] [[12], [75], [12], [77], [12], [79], [76], [78], [80]] 9 [(75, 4096), (76, 37778931862957161709568), (77, 4096), (78, 151115727451828646838272), (79, 4096), (80, 604462909807314587353088), (4, 75557863725914323419136), (5, 302231454903657293676544), (6, 1208925819614629174706176)] mixed (by kernel_rfl) rfl rfl) | (refine W.condA (ht := fun hb => ?_) (hf := fun hb => ?_) <;> (try simp at hb) <;> (try (exfalso; omega))))
            all_goals first
              | (refine ⟨k + 1, by omega, ?_, by (try simp only); omega⟩; rw [e1, e2]; exact Le.auto)
              | (exfalso; omega)
              | trace_state
          | bad p x =>
            have hx := e3 p x hR
            have e2 := hmb k p x hR hx
            rw [hR] at c
            dsimp only [URP] at c
            simp only [lnS, slJ] at c
            generalize ((lets.take k).map Let.name).map encS = N at *
            generalize (tabU lets k).map encJ = V at *
            repeat' (first | (refine W.purgeR [(13, [2, 3, 8, 9, 10]), (14, [2, 3, 8, 9, 10, 11]), (16, [2, 3, 8, 9, 10, 11])] rfl (by repeat (first | exact PN.nil | apply PN.po rfl | (apply PN.pa; exact rfl; (repeat (first | (apply NR.cons; exact rfl) | exact NR.nil rfl))) | apply PN.a rfl | apply PN.s rfl | apply PN.u rfl | apply PN.m rfl | apply PN.k rfl | apply PN.i rfl | apply PN.skip)) (by repeat (first | exact PB.nil | (apply PB.one; exact rfl; (focus (first | (dsimp only; done) | (dsimp only; exact rfl) | exact rfl)); (focus (first | (dsimp only; done) | (dsimp only; exact rfl) | exact rfl)); exact rfl; (repeat (first | (apply NR.cons; exact rfl) | exact NR.nil rfl)))  | apply PB.cons rfl)) ?_) | ((first | apply U_ | (apply Ug_; exact rfl; exact rfl) | (apply Ugq_; exact rfl; exact rfl) | apply Lex.u | (apply Lex.g; exact rfl; exact rfl) | (apply Lex.gq; exact rfl; exact rfl)); (first | (apply Q_callB (.pv (.agg [.int .i64 0, .unk, .int .i64 x])) c; exact rfl; exact EvL.auto) | (apply Q_litD TYok; (repeat (first | exact EvR.nil | apply EvR.cons Ev.auto)); exact rfl; exact rfl; exact rfl; exact rfl; exact rfl; exact rfl) | exact QX.B TYok | exact QX.Len TYok | exact QX.Idx TYok); exact rfl) | refine SX.Alloc TYok (h := ?_) | refine SX.Store TYok (h := ?_) | refine SX.Lit TYok (h := ?_) | refine SX.App TYok (h := ?_) | refine SX.Box TYok (h := ?_) | (apply S_appendd TYok; exact Ev.auto; exact Ev.auto; exact rfl; exact rfl; exact rfl; exact rfl; exact rfl; exact rfl; exact rfl; exact rfl; (intro r hr; first | (obtain ⟨_, _, rfl⟩ := List.mem_map.1 hr; rfl) | (obtain rfl := List.mem_singleton.1 hr; rfl)); (constructor <;> simp <;> omega); exact rfl) | refine SC ?_ | (apply RG.gT; exact rfl; exact rfl; (first | assumption | decide)) | (apply RG.gF; exact rfl; exact rfl; (first | assumption | decide | (rw [ne_eq, Bool.not_eq_true]; assumption) | (rw [ne_eq, Bool.not_eq_false]; assumption)); exact rfl) | (apply W.draw2 (id := 19) [0, 1, 0, 4, 0, 16, 3, 79, 255] [[12], [75], [12], [77], [12], [79], [76], [78], [80]] 9 [(75, 4096), (76, 37778931862957161709568), (77, 4096), (78, 151115727451828646838272), (79, 4096), (80, 604462909807314587353088), (4, 75557863725914323419136), (5, 302231454903657293676544), (6, 1208925819614629174706176)] mixed (by kernel_rfl) rfl rfl) | (refine W.condA (ht := fun hb => ?_) (hf := fun hb => ?_) <;> (try simp at hb) <;> (try (exfalso; omega))))
            all_goals first
              | (refine ⟨k + 1, by omega, ?_, by (try simp only); omega⟩; rw [e1, e2]; exact Le.auto)
              | (exfalso; omega)
              | trace_state
        · obtain rfl : k = lets.length := by omega
          rw [List.take_length]
          repeat' (first | (refine W.weaken (Le.freeze1 (m := 65) rfl) ?_) | (refine W.weaken (Le.freeze1 (m := 70) rfl) ?_) | (refine W.weaken (Le.freeze1 (m := 12) rfl) ?_) | (refine W.purgeR [(18, [3, 8, 9]), (19, [12])] rfl (by repeat (first | exact PN.nil | apply PN.po rfl | (apply PN.pa; exact rfl; (repeat (first | (apply NR.cons; exact rfl) | exact NR.nil rfl))) | apply PN.a rfl | apply PN.s rfl | apply PN.u rfl | apply PN.m rfl | apply PN.k rfl | apply PN.i rfl | apply PN.skip)) (by repeat (first | exact PB.nil | (apply PB.one; exact rfl; (focus (first | (dsimp only; done) | (dsimp only; exact rfl) | exact rfl)); (focus (first | (dsimp only; done) | (dsimp only; exact rfl) | exact rfl)); exact rfl; (repeat (first | (apply NR.cons; exact rfl) | exact NR.nil rfl)))  | apply PB.cons rfl)) ?_) | ((first | apply U_ | (apply Ug_; exact rfl; exact rfl) | (apply Ugq_; exact rfl; exact rfl) | apply Lex.u | (apply Lex.g; exact rfl; exact rfl) | (apply Lex.gq; exact rfl; exact rfl)); (first | exact QX.B TYok | exact QX.Len TYok | exact QX.Idx TYok | exact QCd (h4)); exact rfl) | refine SX.Alloc TYok (h := ?_) | refine SX.Store TYok (h := ?_) | refine SX.Lit TYok (h := ?_) | refine SX.App TYok (h := ?_) | refine SX.Box TYok (h := ?_) | refine SC ?_ | (apply RG.gT; exact rfl; exact rfl; (first | assumption | decide)) | (apply RG.gF; exact rfl; exact rfl; (first | assumption | decide | (rw [ne_eq, Bool.not_eq_true]; assumption) | (rw [ne_eq, Bool.not_eq_false]; assumption)); exact rfl) | apply LexS.nil | (apply LexS.f; exact rfl; (first | (apply FreshV.alloc TYok; exact rfl; exact rfl; exact rfl; exact rfl) | (apply FreshV.lit TYok; (repeat (first | exact EvR.nil | apply EvR.cons Ev.auto)); exact rfl; exact rfl; exact rfl; exact rfl; exact rfl; exact rfl; exact rfl; exact rfl; exact rfl) | (apply FreshV.box; exact Ev.auto; exact rfl; exact rfl; exact rfl)); exact rfl; exact rfl; exact rfl) | (apply LexS.s; exact rfl; exact rfl; (apply StoreV.mk TYok; exact Ev.auto; exact Ev.auto; exact rfl; exact rfl; exact rfl; exact rfl; exact rfl)) | ((first | apply LexS.u | (apply LexS.g; exact rfl; exact rfl) | (apply LexS.gq; exact rfl; exact rfl)); (repeat (first | (apply NB.cons; exact rfl) | exact NB.nil rfl)); (first | exact QX.B TYok | exact QX.Len TYok | exact QX.Idx TYok | exact QCd (h4)); exact rfl; exact rfl; exact rfl) | (apply W.draw2 (id := 19) [0, 1, 0, 4, 0, 16, 3, 79, 255] [[12], [75], [12], [77], [12], [79], [76], [78], [80]] 9 [(75, 4096), (76, 37778931862957161709568), (77, 4096), (78, 151115727451828646838272), (79, 4096), (80, 604462909807314587353088), (4, 75557863725914323419136), (5, 302231454903657293676544), (6, 1208925819614629174706176)] mixed (by kernel_rfl) rfl rfl) | (refine W.condA (ht := fun hb => ?_) (hf := fun hb => ?_) <;> (try simp at hb) <;> (try (exfalso; omega))))
          all_goals first
            | exact Fin.ret ResL.auto
            | (exfalso; omega)
            | trace_state
theorem rofT_ok (hl : LIn lets) {e : Exp} (he : OkE e) {a0 a1 a2 a3 a4 a5 a6 a7 a8 a9 a11 a12 a13 a14 a15 a16 a17 a18 a19 a20 a21 a22 a23 a24 : Cell} : ACalls Try.prog 9 [.agg [a0, a1, a2, a3, a4, a5, a6, a7, a8, a9, .sl (lets.map encL), a11, a12, a13, a14, a15, a16, a17, a18, a19, a20, a21, a22, a23, a24], aE e] (otP (ofT lets e)) := by
  by_cases hc : ofC lets e = true
  · refine rof_yes hl he hc _ ?_
    unfold ofT
    rw [if_pos hc]
    cases ofU lets (tabU lets lets.length) e [] <;> rfl
  · unfold ofT
    rw [if_neg hc]
    exact rof_bad hl he hc
end
end Go.Proofs.Ytppdbmobcfedcaa
end
section
set_option linter.unusedVariables false
set_option linter.unusedSimpArgs false
set_option maxHeartbeats 8000000
set_option linter.unusedSectionVars false
namespace Go.Proofs.Ytppdbmobcfedcaa
open Lf Go
attribute [local irreducible] PureOp EffOp Ev RG W Then InBlock Lf.Fin nth App InitE Pick SubE EvL EvD EvP EvR ResL Lf.Lex SubR SubBR RA RAll EvC FinO FinM ResM
section
theorem rcheck_ok (x : Ind) (hx : OkN x) (hsm : x.lets.length ≤ 1000 ∧ x.covs.length ≤ 1000) : ACalls Try.prog 13 [aN x] (.pv (cI (checkF x))) := by
  have h1 := rrightI_ok x hx hsm
  have h2 : ∀ k, k < x.lets.length → ACalls Try.prog 33 [aE (nth x.lets k).body] (.pv (cB (tempF (nth x.lets k).body))) := fun k hk => rtemp_ok _ (hx.lete _ (nth_mem hk))
  have h3 : ∀ k, k < x.lets.length → ACalls Try.prog 9 [.agg [.str [], .str [], .int .i64 0, .int .i64 0, .int .i64 0, .int .i64 0, .int .i64 0, .int .i64 0, .int .i64 0, .int .i64 0, .sl (List.take k (x.lets.map encL)), .int .i64 0, .int .i64 0, .int .i64 0, .str [], .slnil, .int .i64 0, .slnil, .slnil, .int .i64 0, .slnil, .int .i64 0, .int .i64 0, .int .i64 0, .int .i64 0], aE (nth x.lets k).body] (.tup [cI (ofT (x.lets.take k) (nth x.lets k).body).u, .one (.sl ((ofT (x.lets.take k) (nth x.lets k).body).p.map encJ)), cI (ofT (x.lets.take k) (nth x.lets k).body).e]) := fun k hk => by
    rw [← List.map_take]
    exact rofT_ok (lin_of hx k) (hx.lete _ (nth_mem hk))
  have h4 := rtemp_ok x.coupon hx.coupon
  have h5 : ACalls Try.prog 9 [aN x, aE x.coupon] (.tup [cI (ofT x.lets x.coupon).u, .one (.sl ((ofT x.lets x.coupon).p.map encJ)), cI (ofT x.lets x.coupon).e]) := rofT_ok (lin_all hx) hx.coupon
  have h6 : ∀ k, k < x.covs.length → ACalls Try.prog 9 [aN x, aE (nth x.covs k).must] (.tup [cI (ofT x.lets (nth x.covs k).must).u, .one (.sl ((ofT x.lets (nth x.covs k).must).p.map encJ)), cI (ofT x.lets (nth x.covs k).must).e]) := fun k hk => rofT_ok (lin_all hx) (hx.cove _ (nth_mem hk))
  cases hr : rightN x with
  | false =>
    rw [hr] at h1
    have e : checkF x = 1 := by unfold checkF; rw [if_pos hr]
    rw [e]
    clear h2 h3 h4 h5 h6
    refine ACalls.of_W (qs := [cI 1]) [2] 90 Try.func13 (by kernel_rfl) rfl rfl rfl fun G => ?_
    refine W.initA (hw := ?_)
    repeat' (first | ((first | apply U_ | apply Lex.u | (apply Lex.g; exact rfl; exact rfl) | (apply Lex.gq; exact rfl; exact rfl)); (first | exact QX.B TYok | exact QX.Len TYok | exact QX.Idx TYok | exact QX.Ext TYok | exact QX.Build TYok | exact QX.Cut TYok | exact QCd (h1)); exact rfl) | refine SX.Box TYok (h := ?_) | refine SC ?_ | (apply W.draw2 (id := 8) [0, 1, 0, 7, 15, 0, 32, 0, 224, 480, 992, 2047, 4095, 8191, 8191, 8191, 16383, 98303, 262143] [[1], [32], [3], [33, 34], [35], [1], [37], [3], [38, 39], [40], [41], [36, 42], [43], [31], [31], [31], [44], [45], [46]] 19 [(32, 2), (33, 4294967296), (34, 8), (35, 25769803776), (36, 34359738368), (37, 2), (38, 137438953472), (39, 8), (40, 824633720832), (41, 1099511627776), (42, 2199023255552), (43, 4466765987840), (31, 8796093022208), (44, 2147483648), (45, 2147483648), (46, 2147483648), (4, 17592186044416), (5, 35184372088832), (6, 70368744177664)] mixed (by kernel_rfl) rfl rfl) | (apply W.draw2 (id := 21) [0, 0, 2, 0, 14, 30, 62, 127, 255, 511, 511, 511, 1023, 6143, 16383] [[1], [1], [75], [10], [76, 77], [78], [79], [74, 80], [81], [73], [73], [73], [82], [83], [84]] 15 [(74, 2), (75, 2), (76, 37778931862957161709568), (77, 1024), (78, 226673591177742970257408), (79, 302231454903657293676544), (80, 604462909807314587353088), (81, 1227815285546107755560960), (73, 2417851639229258349412352), (82, 9444732965739290427392), (83, 9444732965739290427392), (84, 9444732965739290427392), (11, 4835703278458516698824704), (12, 9671406556917033397649408), (13, 19342813113834066795298816)] mixed (by kernel_rfl) rfl rfl) | (refine W.condA (ht := fun hb => ?_) (hf := fun hb => ?_) <;> (try simp at hb) <;> (try (exfalso; omega))))
    all_goals exact Fin.ret ResL.auto
  | true =>
  rw [hr] at h1
  have klet := @chk_let x hr
  have kcup := @chk_cup x hr
  have kcov := @chk_cov x hr
  have kall := @chk_all x hr
  generalize checkF x = C at *
  refine ACalls.of_W (qs := [cI C]) [2] 90 Try.func13 (by kernel_rfl) rfl rfl rfl fun G => ?_
  refine W.initA (hw := ?_)
  repeat' (first | (refine W.weaken (Le.freeze1 (m := 1) rfl) ?_) | (refine W.purgeR [(1, [1]), (3, [1])] rfl (by repeat (first | exact PN.nil | apply PN.po rfl | (apply PN.pa; exact rfl; (repeat (first | (apply NR.cons; exact rfl) | exact NR.nil rfl))) | apply PN.a rfl | apply PN.s rfl | apply PN.u rfl | apply PN.m rfl | apply PN.k rfl | apply PN.i rfl | apply PN.skip)) (by repeat (first | exact PB.nil | (apply PB.one; exact rfl; (focus (first | (dsimp only; done) | (dsimp only; exact rfl) | exact rfl)); (focus (first | (dsimp only; done) | (dsimp only; exact rfl) | exact rfl)); exact rfl; (repeat (first | (apply NR.cons; exact rfl) | exact NR.nil rfl)))  | apply PB.cons rfl)) ?_) | ((first | apply U_ | apply Lex.u | (apply Lex.g; exact rfl; exact rfl) | (apply Lex.gq; exact rfl; exact rfl)); (first | exact QX.B TYok | exact QX.Len TYok | exact QX.Idx TYok | exact QX.Ext TYok | exact QX.Build TYok | exact QX.Cut TYok | exact QCd (h1)); exact rfl) | refine SX.Box TYok (h := ?_) | refine SC ?_ | (apply W.draw2 (id := 8) [0, 1, 0, 7, 15, 0, 32, 0, 224, 480, 992, 2047, 4095, 8191, 8191, 8191, 16383, 98303, 262143] [[1], [32], [3], [33, 34], [35], [1], [37], [3], [38, 39], [40], [41], [36, 42], [43], [31], [31], [31], [44], [45], [46]] 19 [(32, 2), (33, 4294967296), (34, 8), (35, 25769803776), (36, 34359738368), (37, 2), (38, 137438953472), (39, 8), (40, 824633720832), (41, 1099511627776), (42, 2199023255552), (43, 4466765987840), (31, 8796093022208), (44, 2147483648), (45, 2147483648), (46, 2147483648), (4, 17592186044416), (5, 35184372088832), (6, 70368744177664)] mixed (by kernel_rfl) rfl rfl) | (apply W.draw2 (id := 21) [0, 0, 2, 0, 14, 30, 62, 127, 255, 511, 511, 511, 1023, 6143, 16383] [[1], [1], [75], [10], [76, 77], [78], [79], [74, 80], [81], [73], [73], [73], [82], [83], [84]] 15 [(74, 2), (75, 2), (76, 37778931862957161709568), (77, 1024), (78, 226673591177742970257408), (79, 302231454903657293676544), (80, 604462909807314587353088), (81, 1227815285546107755560960), (73, 2417851639229258349412352), (82, 9444732965739290427392), (83, 9444732965739290427392), (84, 9444732965739290427392), (11, 4835703278458516698824704), (12, 9671406556917033397649408), (13, 19342813113834066795298816)] mixed (by kernel_rfl) rfl rfl) | (refine W.condA (ht := fun hb => ?_) (hf := fun hb => ?_) <;> (try simp at hb) <;> (try (exfalso; omega))))
  apply W.loopP (σ := Nat) 90 [1] (fun k => k ≤ x.lets.length ∧ firstE (letE x.lets) k = 0) (fun k => [(3, vI k)]) (fun _ => []) (fun k => x.lets.length - k) (0)
  case hp => repeat (first | exact Pick.nil | apply Pick.cons rfl)
  case h0 =>
    refine ⟨⟨by simp, rfl⟩, ?_⟩
    exact Le.auto
  case round =>
    rintro k ⟨g1, g2⟩
    apply W.norm (by repeat (first | exact App.nil | apply App.cons))
    by_cases hk : k < x.lets.length
    · have c2 := h2 k hk
      have c3 := h3 k hk
      have kl := fun v hv => klet hk g2 (v := v) hv
      have hs : letE x.lets k = 0 → firstE (letE x.lets) (k + 1) = 0 := fun q => by rw [firstE, if_neg (by omega)]; exact q
      unfold letE at kl hs
      cases ht : tempF (nth x.lets k).body with
      | true =>
        rw [ht] at c2
        rw [if_pos ht] at kl
        rw [kl 14 rfl (by decide)]
        repeat' (first | ((first | apply U_ | apply Lex.u | (apply Lex.g; exact rfl; exact rfl) | (apply Lex.gq; exact rfl; exact rfl)); (first | exact QX.B TYok | exact QX.Len TYok | exact QX.Idx TYok | exact QX.Ext TYok | exact QX.Build TYok | exact QX.Cut TYok | exact QCd (c2)); exact rfl) | refine SX.Box TYok (h := ?_) | refine SC ?_ | (apply W.draw2 (id := 8) [0, 1, 0, 7, 15, 0, 32, 0, 224, 480, 992, 2047, 4095, 8191, 8191, 8191, 16383, 98303, 262143] [[1], [32], [3], [33, 34], [35], [1], [37], [3], [38, 39], [40], [41], [36, 42], [43], [31], [31], [31], [44], [45], [46]] 19 [(32, 2), (33, 4294967296), (34, 8), (35, 25769803776), (36, 34359738368), (37, 2), (38, 137438953472), (39, 8), (40, 824633720832), (41, 1099511627776), (42, 2199023255552), (43, 4466765987840), (31, 8796093022208), (44, 2147483648), (45, 2147483648), (46, 2147483648), (4, 17592186044416), (5, 35184372088832), (6, 70368744177664)] mixed (by kernel_rfl) rfl rfl) | (apply W.draw2 (id := 21) [0, 0, 2, 0, 14, 30, 62, 127, 255, 511, 511, 511, 1023, 6143, 16383] [[1], [1], [75], [10], [76, 77], [78], [79], [74, 80], [81], [73], [73], [73], [82], [83], [84]] 15 [(74, 2), (75, 2), (76, 37778931862957161709568), (77, 1024), (78, 226673591177742970257408), (79, 302231454903657293676544), (80, 604462909807314587353088), (81, 1227815285546107755560960), (73, 2417851639229258349412352), (82, 9444732965739290427392), (83, 9444732965739290427392), (84, 9444732965739290427392), (11, 4835703278458516698824704), (12, 9671406556917033397649408), (13, 19342813113834066795298816)] mixed (by kernel_rfl) rfl rfl) | (refine W.condA (ht := fun hb => ?_) (hf := fun hb => ?_) <;> (try simp at hb) <;> (try (exfalso; omega))))
        all_goals first
          | exact Fin.ret ResL.auto
          | (exfalso; omega)
          | trace_state
      | false =>
        rw [ht] at c2
        rw [if_neg (by rw [ht]; decide)] at kl hs
        generalize (ofT (x.lets.take k) (nth x.lets k).body) = T at *
        by_cases he : T.e = 0
        · repeat' (first | (refine W.purgeR [(6, [1, 3]), (8, [1, 3])] rfl (by repeat (first | exact PN.nil | apply PN.po rfl | (apply PN.pa; exact rfl; (repeat (first | (apply NR.cons; exact rfl) | exact NR.nil rfl))) | apply PN.a rfl | apply PN.s rfl | apply PN.u rfl | apply PN.m rfl | apply PN.k rfl | apply PN.i rfl | apply PN.skip)) (by repeat (first | exact PB.nil | (apply PB.one; exact rfl; (focus (first | (dsimp only; done) | (dsimp only; exact rfl) | exact rfl)); (focus (first | (dsimp only; done) | (dsimp only; exact rfl) | exact rfl)); exact rfl; (repeat (first | (apply NR.cons; exact rfl) | exact NR.nil rfl)))  | apply PB.cons rfl)) ?_) | ((first | apply U_ | apply Lex.u | (apply Lex.g; exact rfl; exact rfl) | (apply Lex.gq; exact rfl; exact rfl)); (first | exact QX.B TYok | exact QX.Len TYok | exact QX.Idx TYok | exact QX.Ext TYok | exact QX.Build TYok | exact QX.Cut TYok | exact QCd (c2) | exact QCd (c3)); exact rfl) | refine SX.Box TYok (h := ?_) | refine SC ?_ | (apply W.draw2 (id := 8) [0, 1, 0, 7, 15, 0, 32, 0, 224, 480, 992, 2047, 4095, 8191, 8191, 8191, 16383, 98303, 262143] [[1], [32], [3], [33, 34], [35], [1], [37], [3], [38, 39], [40], [41], [36, 42], [43], [31], [31], [31], [44], [45], [46]] 19 [(32, 2), (33, 4294967296), (34, 8), (35, 25769803776), (36, 34359738368), (37, 2), (38, 137438953472), (39, 8), (40, 824633720832), (41, 1099511627776), (42, 2199023255552), (43, 4466765987840), (31, 8796093022208), (44, 2147483648), (45, 2147483648), (46, 2147483648), (4, 17592186044416), (5, 35184372088832), (6, 70368744177664)] mixed (by kernel_rfl) rfl rfl) | (apply W.draw2 (id := 21) [0, 0, 2, 0, 14, 30, 62, 127, 255, 511, 511, 511, 1023, 6143, 16383] [[1], [1], [75], [10], [76, 77], [78], [79], [74, 80], [81], [73], [73], [73], [82], [83], [84]] 15 [(74, 2), (75, 2), (76, 37778931862957161709568), (77, 1024), (78, 226673591177742970257408), (79, 302231454903657293676544), (80, 604462909807314587353088), (81, 1227815285546107755560960), (73, 2417851639229258349412352), (82, 9444732965739290427392), (83, 9444732965739290427392), (84, 9444732965739290427392), (11, 4835703278458516698824704), (12, 9671406556917033397649408), (13, 19342813113834066795298816)] mixed (by kernel_rfl) rfl rfl) | (refine W.condA (ht := fun hb => ?_) (hf := fun hb => ?_) <;> (try simp at hb) <;> (try (exfalso; omega))))
          all_goals first
            | (refine ⟨k + 1, ⟨by omega, hs he⟩, ?_, by (try simp only); omega⟩; exact Le.auto)
            | (exfalso; omega)
            | trace_state
        · rw [kl T.e rfl he]
          repeat' (first | (refine W.purgeR [(6, [1, 3]), (8, [1, 3])] rfl (by repeat (first | exact PN.nil | apply PN.po rfl | (apply PN.pa; exact rfl; (repeat (first | (apply NR.cons; exact rfl) | exact NR.nil rfl))) | apply PN.a rfl | apply PN.s rfl | apply PN.u rfl | apply PN.m rfl | apply PN.k rfl | apply PN.i rfl | apply PN.skip)) (by repeat (first | exact PB.nil | (apply PB.one; exact rfl; (focus (first | (dsimp only; done) | (dsimp only; exact rfl) | exact rfl)); (focus (first | (dsimp only; done) | (dsimp only; exact rfl) | exact rfl)); exact rfl; (repeat (first | (apply NR.cons; exact rfl) | exact NR.nil rfl)))  | apply PB.cons rfl)) ?_) | ((first | apply U_ | apply Lex.u | (apply Lex.g; exact rfl; exact rfl) | (apply Lex.gq; exact rfl; exact rfl)); (first | exact QX.B TYok | exact QX.Len TYok | exact QX.Idx TYok | exact QX.Ext TYok | exact QX.Build TYok | exact QX.Cut TYok | exact QCd (c2) | exact QCd (c3)); exact rfl) | refine SX.Box TYok (h := ?_) | refine SC ?_ | (apply W.draw2 (id := 8) [0, 1, 0, 7, 15, 0, 32, 0, 224, 480, 992, 2047, 4095, 8191, 8191, 8191, 16383, 98303, 262143] [[1], [32], [3], [33, 34], [35], [1], [37], [3], [38, 39], [40], [41], [36, 42], [43], [31], [31], [31], [44], [45], [46]] 19 [(32, 2), (33, 4294967296), (34, 8), (35, 25769803776), (36, 34359738368), (37, 2), (38, 137438953472), (39, 8), (40, 824633720832), (41, 1099511627776), (42, 2199023255552), (43, 4466765987840), (31, 8796093022208), (44, 2147483648), (45, 2147483648), (46, 2147483648), (4, 17592186044416), (5, 35184372088832), (6, 70368744177664)] mixed (by kernel_rfl) rfl rfl) | (apply W.draw2 (id := 21) [0, 0, 2, 0, 14, 30, 62, 127, 255, 511, 511, 511, 1023, 6143, 16383] [[1], [1], [75], [10], [76, 77], [78], [79], [74, 80], [81], [73], [73], [73], [82], [83], [84]] 15 [(74, 2), (75, 2), (76, 37778931862957161709568), (77, 1024), (78, 226673591177742970257408), (79, 302231454903657293676544), (80, 604462909807314587353088), (81, 1227815285546107755560960), (73, 2417851639229258349412352), (82, 9444732965739290427392), (83, 9444732965739290427392), (84, 9444732965739290427392), (11, 4835703278458516698824704), (12, 9671406556917033397649408), (13, 19342813113834066795298816)] mixed (by kernel_rfl) rfl rfl) | (refine W.condA (ht := fun hb => ?_) (hf := fun hb => ?_) <;> (try simp at hb) <;> (try (exfalso; omega))))
          all_goals first
            | exact Fin.ret ResL.auto
            | (exfalso; omega)
            | trace_state
    · obtain rfl : k = x.lets.length := by omega
      have kc := fun v hv => kcup g2 (v := v) hv
      have kv := kcov g2
      have ka := kall g2
      unfold cupE at kc kv ka
      cases ht : tempF x.coupon with
      | true =>
        rw [ht] at h4
        rw [if_pos ht] at kc
        rw [kc 14 rfl (by decide)]
        repeat' (first | ((first | apply U_ | apply Lex.u | (apply Lex.g; exact rfl; exact rfl) | (apply Lex.gq; exact rfl; exact rfl)); (first | exact QX.B TYok | exact QX.Len TYok | exact QX.Idx TYok | exact QX.Ext TYok | exact QX.Build TYok | exact QX.Cut TYok | exact QCd (h4)); exact rfl) | refine SX.Box TYok (h := ?_) | refine SC ?_ | (apply W.draw2 (id := 8) [0, 1, 0, 7, 15, 0, 32, 0, 224, 480, 992, 2047, 4095, 8191, 8191, 8191, 16383, 98303, 262143] [[1], [32], [3], [33, 34], [35], [1], [37], [3], [38, 39], [40], [41], [36, 42], [43], [31], [31], [31], [44], [45], [46]] 19 [(32, 2), (33, 4294967296), (34, 8), (35, 25769803776), (36, 34359738368), (37, 2), (38, 137438953472), (39, 8), (40, 824633720832), (41, 1099511627776), (42, 2199023255552), (43, 4466765987840), (31, 8796093022208), (44, 2147483648), (45, 2147483648), (46, 2147483648), (4, 17592186044416), (5, 35184372088832), (6, 70368744177664)] mixed (by kernel_rfl) rfl rfl) | (apply W.draw2 (id := 21) [0, 0, 2, 0, 14, 30, 62, 127, 255, 511, 511, 511, 1023, 6143, 16383] [[1], [1], [75], [10], [76, 77], [78], [79], [74, 80], [81], [73], [73], [73], [82], [83], [84]] 15 [(74, 2), (75, 2), (76, 37778931862957161709568), (77, 1024), (78, 226673591177742970257408), (79, 302231454903657293676544), (80, 604462909807314587353088), (81, 1227815285546107755560960), (73, 2417851639229258349412352), (82, 9444732965739290427392), (83, 9444732965739290427392), (84, 9444732965739290427392), (11, 4835703278458516698824704), (12, 9671406556917033397649408), (13, 19342813113834066795298816)] mixed (by kernel_rfl) rfl rfl) | (refine W.condA (ht := fun hb => ?_) (hf := fun hb => ?_) <;> (try simp at hb) <;> (try (exfalso; omega))))
        all_goals first
          | exact Fin.ret ResL.auto
          | (exfalso; omega)
          | trace_state
      | false =>
        rw [ht] at h4
        rw [if_neg (by rw [ht]; decide)] at kc kv ka
        generalize (ofT x.lets x.coupon) = T at *
        by_cases he : T.e = 0
        case neg =>
          rw [if_pos he] at kc
          rw [kc T.e rfl he]
          repeat' (first | ((first | apply U_ | apply Lex.u | (apply Lex.g; exact rfl; exact rfl) | (apply Lex.gq; exact rfl; exact rfl)); (first | exact QX.B TYok | exact QX.Len TYok | exact QX.Idx TYok | exact QX.Ext TYok | exact QX.Build TYok | exact QX.Cut TYok | exact QCd (h4) | exact QCd (h5)); exact rfl) | refine SX.Box TYok (h := ?_) | refine SC ?_ | (apply W.draw2 (id := 8) [0, 1, 0, 7, 15, 0, 32, 0, 224, 480, 992, 2047, 4095, 8191, 8191, 8191, 16383, 98303, 262143] [[1], [32], [3], [33, 34], [35], [1], [37], [3], [38, 39], [40], [41], [36, 42], [43], [31], [31], [31], [44], [45], [46]] 19 [(32, 2), (33, 4294967296), (34, 8), (35, 25769803776), (36, 34359738368), (37, 2), (38, 137438953472), (39, 8), (40, 824633720832), (41, 1099511627776), (42, 2199023255552), (43, 4466765987840), (31, 8796093022208), (44, 2147483648), (45, 2147483648), (46, 2147483648), (4, 17592186044416), (5, 35184372088832), (6, 70368744177664)] mixed (by kernel_rfl) rfl rfl) | (apply W.draw2 (id := 21) [0, 0, 2, 0, 14, 30, 62, 127, 255, 511, 511, 511, 1023, 6143, 16383] [[1], [1], [75], [10], [76, 77], [78], [79], [74, 80], [81], [73], [73], [73], [82], [83], [84]] 15 [(74, 2), (75, 2), (76, 37778931862957161709568), (77, 1024), (78, 226673591177742970257408), (79, 302231454903657293676544), (80, 604462909807314587353088), (81, 1227815285546107755560960), (73, 2417851639229258349412352), (82, 9444732965739290427392), (83, 9444732965739290427392), (84, 9444732965739290427392), (11, 4835703278458516698824704), (12, 9671406556917033397649408), (13, 19342813113834066795298816)] mixed (by kernel_rfl) rfl rfl) | (refine W.condA (ht := fun hb => ?_) (hf := fun hb => ?_) <;> (try simp at hb) <;> (try (exfalso; omega))))
          all_goals first
            | exact Fin.ret ResL.auto
            | (exfalso; omega)
            | trace_state
        case pos =>
        rw [if_neg (by omega)] at kc kv ka
        by_cases hu : T.u = 2
        case neg =>
          rw [if_pos hu] at kc
          rw [kc 13 rfl (by decide)]
          repeat' (first | ((first | apply U_ | apply Lex.u | (apply Lex.g; exact rfl; exact rfl) | (apply Lex.gq; exact rfl; exact rfl)); (first | exact QX.B TYok | exact QX.Len TYok | exact QX.Idx TYok | exact QX.Ext TYok | exact QX.Build TYok | exact QX.Cut TYok | exact QCd (h4) | exact QCd (h5)); exact rfl) | refine SX.Box TYok (h := ?_) | refine SC ?_ | (apply W.draw2 (id := 8) [0, 1, 0, 7, 15, 0, 32, 0, 224, 480, 992, 2047, 4095, 8191, 8191, 8191, 16383, 98303, 262143] [[1], [32], [3], [33, 34], [35], [1], [37], [3], [38, 39], [40], [41], [36, 42], [43], [31], [31], [31], [44], [45], [46]] 19 [(32, 2), (33, 4294967296), (34, 8), (35, 25769803776), (36, 34359738368), (37, 2), (38, 137438953472), (39, 8), (40, 824633720832), (41, 1099511627776), (42, 2199023255552), (43, 4466765987840), (31, 8796093022208), (44, 2147483648), (45, 2147483648), (46, 2147483648), (4, 17592186044416), (5, 35184372088832), (6, 70368744177664)] mixed (by kernel_rfl) rfl rfl) | (apply W.draw2 (id := 21) [0, 0, 2, 0, 14, 30, 62, 127, 255, 511, 511, 511, 1023, 6143, 16383] [[1], [1], [75], [10], [76, 77], [78], [79], [74, 80], [81], [73], [73], [73], [82], [83], [84]] 15 [(74, 2), (75, 2), (76, 37778931862957161709568), (77, 1024), (78, 226673591177742970257408), (79, 302231454903657293676544), (80, 604462909807314587353088), (81, 1227815285546107755560960), (73, 2417851639229258349412352), (82, 9444732965739290427392), (83, 9444732965739290427392), (84, 9444732965739290427392), (11, 4835703278458516698824704), (12, 9671406556917033397649408), (13, 19342813113834066795298816)] mixed (by kernel_rfl) rfl rfl) | (refine W.condA (ht := fun hb => ?_) (hf := fun hb => ?_) <;> (try simp at hb) <;> (try (exfalso; omega))))
          all_goals first
            | exact Fin.ret ResL.auto
            | (exfalso; omega)
            | trace_state
        case pos =>
        rw [if_neg (by omega)] at kc kv ka
        repeat' (first | (refine W.purgeR [(11, [1]), (13, [1]), (18, [1])] rfl (by repeat (first | exact PN.nil | apply PN.po rfl | (apply PN.pa; exact rfl; (repeat (first | (apply NR.cons; exact rfl) | exact NR.nil rfl))) | apply PN.a rfl | apply PN.s rfl | apply PN.u rfl | apply PN.m rfl | apply PN.k rfl | apply PN.i rfl | apply PN.skip)) (by repeat (first | exact PB.nil | (apply PB.one; exact rfl; (focus (first | (dsimp only; done) | (dsimp only; exact rfl) | exact rfl)); (focus (first | (dsimp only; done) | (dsimp only; exact rfl) | exact rfl)); exact rfl; (repeat (first | (apply NR.cons; exact rfl) | exact NR.nil rfl)))  | apply PB.cons rfl)) ?_) | ((first | apply U_ | apply Lex.u | (apply Lex.g; exact rfl; exact rfl) | (apply Lex.gq; exact rfl; exact rfl)); (first | exact QX.B TYok | exact QX.Len TYok | exact QX.Idx TYok | exact QX.Ext TYok | exact QX.Build TYok | exact QX.Cut TYok | exact QCd (h4) | exact QCd (h5)); exact rfl) | refine SX.Box TYok (h := ?_) | refine SC ?_ | (apply W.draw2 (id := 8) [0, 1, 0, 7, 15, 0, 32, 0, 224, 480, 992, 2047, 4095, 8191, 8191, 8191, 16383, 98303, 262143] [[1], [32], [3], [33, 34], [35], [1], [37], [3], [38, 39], [40], [41], [36, 42], [43], [31], [31], [31], [44], [45], [46]] 19 [(32, 2), (33, 4294967296), (34, 8), (35, 25769803776), (36, 34359738368), (37, 2), (38, 137438953472), (39, 8), (40, 824633720832), (41, 1099511627776), (42, 2199023255552), (43, 4466765987840), (31, 8796093022208), (44, 2147483648), (45, 2147483648), (46, 2147483648), (4, 17592186044416), (5, 35184372088832), (6, 70368744177664)] mixed (by kernel_rfl) rfl rfl) | (apply W.draw2 (id := 21) [0, 0, 2, 0, 14, 30, 62, 127, 255, 511, 511, 511, 1023, 6143, 16383] [[1], [1], [75], [10], [76, 77], [78], [79], [74, 80], [81], [73], [73], [73], [82], [83], [84]] 15 [(74, 2), (75, 2), (76, 37778931862957161709568), (77, 1024), (78, 226673591177742970257408), (79, 302231454903657293676544), (80, 604462909807314587353088), (81, 1227815285546107755560960), (73, 2417851639229258349412352), (82, 9444732965739290427392), (83, 9444732965739290427392), (84, 9444732965739290427392), (11, 4835703278458516698824704), (12, 9671406556917033397649408), (13, 19342813113834066795298816)] mixed (by kernel_rfl) rfl rfl) | (refine W.condA (ht := fun hb => ?_) (hf := fun hb => ?_) <;> (try simp at hb) <;> (try (exfalso; omega))))
        all_goals first
          | (exfalso; omega)
          | skip
        apply W.loopP (σ := Nat) 90 [1] (fun k => k ≤ x.covs.length ∧ firstE (covE x.lets x.covs) k = 0) (fun k => [(10, vI k)]) (fun _ => []) (fun k => x.covs.length - k) (0)
        case hp => repeat (first | exact Pick.nil | apply Pick.cons rfl)
        case h0 =>
          refine ⟨⟨by simp, rfl⟩, ?_⟩
          exact Le.auto
        case round =>
          rintro k ⟨g3, g4⟩
          apply W.norm (by repeat (first | exact App.nil | apply App.cons))
          by_cases hk : k < x.covs.length
          · have c6 := h6 k hk
            have kl := fun v hv => kv rfl hk g4 (v := v) hv
            have hs : covE x.lets x.covs k = 0 → firstE (covE x.lets x.covs) (k + 1) = 0 := fun q => by rw [firstE, if_neg (by omega)]; exact q
            unfold covE at kl hs
            generalize (ofT x.lets (nth x.covs k).must) = T' at *
            by_cases he' : T'.e = 0
            case neg =>
              rw [if_pos he'] at kl
              rw [kl T'.e rfl he']
              repeat' (first | (refine W.purgeR [(19, [1, 10]), (21, [1, 10])] rfl (by repeat (first | exact PN.nil | apply PN.po rfl | (apply PN.pa; exact rfl; (repeat (first | (apply NR.cons; exact rfl) | exact NR.nil rfl))) | apply PN.a rfl | apply PN.s rfl | apply PN.u rfl | apply PN.m rfl | apply PN.k rfl | apply PN.i rfl | apply PN.skip)) (by repeat (first | exact PB.nil | (apply PB.one; exact rfl; (focus (first | (dsimp only; done) | (dsimp only; exact rfl) | exact rfl)); (focus (first | (dsimp only; done) | (dsimp only; exact rfl) | exact rfl)); exact rfl; (repeat (first | (apply NR.cons; exact rfl) | exact NR.nil rfl)))  | apply PB.cons rfl)) ?_) | ((first | apply U_ | apply Lex.u | (apply Lex.g; exact rfl; exact rfl) | (apply Lex.gq; exact rfl; exact rfl)); (first | exact QX.B TYok | exact QX.Len TYok | exact QX.Idx TYok | exact QX.Ext TYok | exact QX.Build TYok | exact QX.Cut TYok | exact QCd (c6)); exact rfl) | refine SX.Box TYok (h := ?_) | refine SC ?_ | (apply W.draw2 (id := 8) [0, 1, 0, 7, 15, 0, 32, 0, 224, 480, 992, 2047, 4095, 8191, 8191, 8191, 16383, 98303, 262143] [[1], [32], [3], [33, 34], [35], [1], [37], [3], [38, 39], [40], [41], [36, 42], [43], [31], [31], [31], [44], [45], [46]] 19 [(32, 2), (33, 4294967296), (34, 8), (35, 25769803776), (36, 34359738368), (37, 2), (38, 137438953472), (39, 8), (40, 824633720832), (41, 1099511627776), (42, 2199023255552), (43, 4466765987840), (31, 8796093022208), (44, 2147483648), (45, 2147483648), (46, 2147483648), (4, 17592186044416), (5, 35184372088832), (6, 70368744177664)] mixed (by kernel_rfl) rfl rfl) | (apply W.draw2 (id := 21) [0, 0, 2, 0, 14, 30, 62, 127, 255, 511, 511, 511, 1023, 6143, 16383] [[1], [1], [75], [10], [76, 77], [78], [79], [74, 80], [81], [73], [73], [73], [82], [83], [84]] 15 [(74, 2), (75, 2), (76, 37778931862957161709568), (77, 1024), (78, 226673591177742970257408), (79, 302231454903657293676544), (80, 604462909807314587353088), (81, 1227815285546107755560960), (73, 2417851639229258349412352), (82, 9444732965739290427392), (83, 9444732965739290427392), (84, 9444732965739290427392), (11, 4835703278458516698824704), (12, 9671406556917033397649408), (13, 19342813113834066795298816)] mixed (by kernel_rfl) rfl rfl) | (refine W.condA (ht := fun hb => ?_) (hf := fun hb => ?_) <;> (try simp at hb) <;> (try (exfalso; omega))))
              all_goals first
                | exact Fin.ret ResL.auto
                | (exfalso; omega)
                | trace_state
            case pos =>
            rw [if_neg (by omega)] at kl hs
            by_cases hu' : T'.u = 4
            case neg =>
              rw [if_pos hu'] at kl
              rw [kl 13 rfl (by decide)]
              repeat' (first | (refine W.purgeR [(19, [1, 10]), (21, [1, 10])] rfl (by repeat (first | exact PN.nil | apply PN.po rfl | (apply PN.pa; exact rfl; (repeat (first | (apply NR.cons; exact rfl) | exact NR.nil rfl))) | apply PN.a rfl | apply PN.s rfl | apply PN.u rfl | apply PN.m rfl | apply PN.k rfl | apply PN.i rfl | apply PN.skip)) (by repeat (first | exact PB.nil | (apply PB.one; exact rfl; (focus (first | (dsimp only; done) | (dsimp only; exact rfl) | exact rfl)); (focus (first | (dsimp only; done) | (dsimp only; exact rfl) | exact rfl)); exact rfl; (repeat (first | (apply NR.cons; exact rfl) | exact NR.nil rfl)))  | apply PB.cons rfl)) ?_) | ((first | apply U_ | apply Lex.u | (apply Lex.g; exact rfl; exact rfl) | (apply Lex.gq; exact rfl; exact rfl)); (first | exact QX.B TYok | exact QX.Len TYok | exact QX.Idx TYok | exact QX.Ext TYok | exact QX.Build TYok | exact QX.Cut TYok | exact QCd (c6)); exact rfl) | refine SX.Box TYok (h := ?_) | refine SC ?_ | (apply W.draw2 (id := 8) [0, 1, 0, 7, 15, 0, 32, 0, 224, 480, 992, 2047, 4095, 8191, 8191, 8191, 16383, 98303, 262143] [[1], [32], [3], [33, 34], [35], [1], [37], [3], [38, 39], [40], [41], [36, 42], [43], [31], [31], [31], [44], [45], [46]] 19 [(32, 2), (33, 4294967296), (34, 8), (35, 25769803776), (36, 34359738368), (37, 2), (38, 137438953472), (39, 8), (40, 824633720832), (41, 1099511627776), (42, 2199023255552), (43, 4466765987840), (31, 8796093022208), (44, 2147483648), (45, 2147483648), (46, 2147483648), (4, 17592186044416), (5, 35184372088832), (6, 70368744177664)] mixed (by kernel_rfl) rfl rfl) | (apply W.draw2 (id := 21) [0, 0, 2, 0, 14, 30, 62, 127, 255, 511, 511, 511, 1023, 6143, 16383] [[1], [1], [75], [10], [76, 77], [78], [79], [74, 80], [81], [73], [73], [73], [82], [83], [84]] 15 [(74, 2), (75, 2), (76, 37778931862957161709568), (77, 1024), (78, 226673591177742970257408), (79, 302231454903657293676544), (80, 604462909807314587353088), (81, 1227815285546107755560960), (73, 2417851639229258349412352), (82, 9444732965739290427392), (83, 9444732965739290427392), (84, 9444732965739290427392), (11, 4835703278458516698824704), (12, 9671406556917033397649408), (13, 19342813113834066795298816)] mixed (by kernel_rfl) rfl rfl) | (refine W.condA (ht := fun hb => ?_) (hf := fun hb => ?_) <;> (try simp at hb) <;> (try (exfalso; omega))))
              all_goals first
                | exact Fin.ret ResL.auto
                | (exfalso; omega)
                | trace_state
            case pos =>
            rw [if_neg (by omega)] at kl hs
            repeat' (first | (refine W.purgeR [(19, [1, 10]), (21, [1, 10])] rfl (by repeat (first | exact PN.nil | apply PN.po rfl | (apply PN.pa; exact rfl; (repeat (first | (apply NR.cons; exact rfl) | exact NR.nil rfl))) | apply PN.a rfl | apply PN.s rfl | apply PN.u rfl | apply PN.m rfl | apply PN.k rfl | apply PN.i rfl | apply PN.skip)) (by repeat (first | exact PB.nil | (apply PB.one; exact rfl; (focus (first | (dsimp only; done) | (dsimp only; exact rfl) | exact rfl)); (focus (first | (dsimp only; done) | (dsimp only; exact rfl) | exact rfl)); exact rfl; (repeat (first | (apply NR.cons; exact rfl) | exact NR.nil rfl)))  | apply PB.cons rfl)) ?_) | ((first | apply U_ | apply Lex.u | (apply Lex.g; exact rfl; exact rfl) | (apply Lex.gq; exact rfl; exact rfl)); (first | exact QX.B TYok | exact QX.Len TYok | exact QX.Idx TYok | exact QX.Ext TYok | exact QX.Build TYok | exact QX.Cut TYok | exact QCd (c6)); exact rfl) | refine SX.Box TYok (h := ?_) | refine SC ?_ | (apply W.draw2 (id := 8) [0, 1, 0, 7, 15, 0, 32, 0, 224, 480, 992, 2047, 4095, 8191, 8191, 8191, 16383, 98303, 262143] [[1], [32], [3], [33, 34], [35], [1], [37], [3], [38, 39], [40], [41], [36, 42], [43], [31], [31], [31], [44], [45], [46]] 19 [(32, 2), (33, 4294967296), (34, 8), (35, 25769803776), (36, 34359738368), (37, 2), (38, 137438953472), (39, 8), (40, 824633720832), (41, 1099511627776), (42, 2199023255552), (43, 4466765987840), (31, 8796093022208), (44, 2147483648), (45, 2147483648), (46, 2147483648), (4, 17592186044416), (5, 35184372088832), (6, 70368744177664)] mixed (by kernel_rfl) rfl rfl) | (apply W.draw2 (id := 21) [0, 0, 2, 0, 14, 30, 62, 127, 255, 511, 511, 511, 1023, 6143, 16383] [[1], [1], [75], [10], [76, 77], [78], [79], [74, 80], [81], [73], [73], [73], [82], [83], [84]] 15 [(74, 2), (75, 2), (76, 37778931862957161709568), (77, 1024), (78, 226673591177742970257408), (79, 302231454903657293676544), (80, 604462909807314587353088), (81, 1227815285546107755560960), (73, 2417851639229258349412352), (82, 9444732965739290427392), (83, 9444732965739290427392), (84, 9444732965739290427392), (11, 4835703278458516698824704), (12, 9671406556917033397649408), (13, 19342813113834066795298816)] mixed (by kernel_rfl) rfl rfl) | (refine W.condA (ht := fun hb => ?_) (hf := fun hb => ?_) <;> (try simp at hb) <;> (try (exfalso; omega))))
            all_goals first
              | (refine ⟨k + 1, ⟨by omega, hs rfl⟩, ?_, by (try simp only); omega⟩; exact Le.auto)
              | (exfalso; omega)
              | trace_state
          · obtain rfl : k = x.covs.length := by omega
            rw [ka rfl, g4]
            repeat' (first | ((first | apply U_ | apply Lex.u | (apply Lex.g; exact rfl; exact rfl) | (apply Lex.gq; exact rfl; exact rfl)); (first | exact QX.B TYok | exact QX.Len TYok | exact QX.Idx TYok | exact QX.Ext TYok | exact QX.Build TYok | exact QX.Cut TYok); exact rfl) | refine SX.Box TYok (h := ?_) | refine SC ?_ | (apply W.draw2 (id := 8) [0, 1, 0, 7, 15, 0, 32, 0, 224, 480, 992, 2047, 4095, 8191, 8191, 8191, 16383, 98303, 262143] [[1], [32], [3], [33, 34], [35], [1], [37], [3], [38, 39], [40], [41], [36, 42], [43], [31], [31], [31], [44], [45], [46]] 19 [(32, 2), (33, 4294967296), (34, 8), (35, 25769803776), (36, 34359738368), (37, 2), (38, 137438953472), (39, 8), (40, 824633720832), (41, 1099511627776), (42, 2199023255552), (43, 4466765987840), (31, 8796093022208), (44, 2147483648), (45, 2147483648), (46, 2147483648), (4, 17592186044416), (5, 35184372088832), (6, 70368744177664)] mixed (by kernel_rfl) rfl rfl) | (apply W.draw2 (id := 21) [0, 0, 2, 0, 14, 30, 62, 127, 255, 511, 511, 511, 1023, 6143, 16383] [[1], [1], [75], [10], [76, 77], [78], [79], [74, 80], [81], [73], [73], [73], [82], [83], [84]] 15 [(74, 2), (75, 2), (76, 37778931862957161709568), (77, 1024), (78, 226673591177742970257408), (79, 302231454903657293676544), (80, 604462909807314587353088), (81, 1227815285546107755560960), (73, 2417851639229258349412352), (82, 9444732965739290427392), (83, 9444732965739290427392), (84, 9444732965739290427392), (11, 4835703278458516698824704), (12, 9671406556917033397649408), (13, 19342813113834066795298816)] mixed (by kernel_rfl) rfl rfl) | (refine W.condA (ht := fun hb => ?_) (hf := fun hb => ?_) <;> (try simp at hb) <;> (try (exfalso; omega))))
            all_goals first
              | exact Fin.ret ResL.auto
              | (exfalso; omega)
              | trace_state
end
end Go.Proofs.Ytppdbmobcfedcaa
end
