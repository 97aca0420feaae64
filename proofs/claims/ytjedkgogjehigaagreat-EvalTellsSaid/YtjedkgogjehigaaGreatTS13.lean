/-
  Part 13 of what the proof rests on.
-/
import Derived.Test.YtjedkgogjehigaaGreatTS09
import Derived.Test.YtjedkgogjehigaaGreatTS12
import Derived.Test.YtjedkgogjehigaaGreatTS10
section
set_option linter.unusedVariables false
set_option linter.unusedSimpArgs false
set_option maxHeartbeats 8000000
set_option linter.unusedSectionVars false
namespace Go.Proofs.YtjedkgogjehigaaGreat
open Lf Go
attribute [local irreducible] PureOp EffOp Ev RG W Then InBlock Lf.Fin nth App InitE Pick SubE EvL EvD EvP EvR ResL Lf.Lex SubR SubBR EvC FinO FinM ResM ResD FinS val pw digs trimL
theorem rletter_ok (c : UInt8) : ACalls Tryz.prog 148 [cU8 c] (.pv (cB (letterF c))) := by
  refine ACalls.of_W (qs := [_]) [2] 9 Tryz.func148 (by kernel_rfl) rfl rfl rfl fun G => ?_
  refine W.initA (hw := ?_)
  repeat' (first | ((first | apply U_ | (apply Ug_; exact rfl; exact rfl) | (apply Ugq_; exact rfl; exact rfl)); (first | exact QX.B TYok); exact rfl) | refine SC ?_ | (apply RG.gT; exact rfl; exact rfl; (first | assumption | decide)) | (apply RG.gF; exact rfl; exact rfl; (first | assumption | decide | (rw [ne_eq, Bool.not_eq_true]; assumption) | (rw [ne_eq, Bool.not_eq_false]; assumption)); exact rfl) | (refine W.condA (ht := fun hb => ?_) (hf := fun hb => ?_) <;> (try simp at hb) <;> (try (exfalso; omega))))
  exact Fin.ret ResL.auto
theorem rdigitS_ok (c : UInt8) : ACalls Tryz.prog 149 [cU8 c] (.pv (cB (digitF c))) := by
  refine ACalls.of_W (qs := [_]) [2] 9 Tryz.func149 (by kernel_rfl) rfl rfl rfl fun G => ?_
  refine W.initA (hw := ?_)
  repeat' (first | ((first | apply U_ | (apply Ug_; exact rfl; exact rfl) | (apply Ugq_; exact rfl; exact rfl)); (first | exact QX.B TYok); exact rfl) | refine SC ?_ | (apply RG.gT; exact rfl; exact rfl; (first | assumption | decide)) | (apply RG.gF; exact rfl; exact rfl; (first | assumption | decide | (rw [ne_eq, Bool.not_eq_true]; assumption) | (rw [ne_eq, Bool.not_eq_false]; assumption)); exact rfl) | (refine W.condA (ht := fun hb => ?_) (hf := fun hb => ?_) <;> (try simp at hb) <;> (try (exfalso; omega))))
  exact Fin.ret ResL.auto
theorem rreserved_ok : ACalls Tryz.prog 133 [] (.pv (slS RES)) := by
  refine ACalls.of_W (qs := [slS RES]) [0] 2 Tryz.func133 (by kernel_rfl) rfl rfl rfl fun G => ?_
  refine W.initA (hw := ?_)
  repeat' (first | ((first | apply U_); (first | exact QX.B TYok); exact rfl) | refine SX.Lit TYok (h := ?_) | refine SC ?_ | (refine W.condA (ht := fun hb => ?_) (hf := fun hb => ?_) <;> (try simp at hb) <;> (try (exfalso; omega))))
  exact Fin.ret (ResL.cons rfl rfl (PSub.of_eq rfl) ResL.nil)
theorem rword_ok (s : Str) (hl : s.length ≤ 9223372036854775807) : ACalls Tryz.prog 134 [cS s] (.pv (cB (wordF s))) := by
  refine ACalls.of_W (qs := [cB (wordF s)]) [2] 36 Tryz.func134 (by kernel_rfl) rfl rfl rfl fun G => ?_
  refine W.initA (hw := ?_)
  by_cases h0 : s = []
  · subst h0
    repeat' (first | ((first | apply U_ | (apply Ug_; exact rfl; exact rfl) | (apply Ugq_; exact rfl; exact rfl)); (first | exact QX.B TYok | exact QX.Len TYok | exact QX.Idxs TYok | exact QCl (rletter_ok 0) | exact QCl (rletter_ok (nth [] 0))); exact rfl) | refine SC ?_ | (apply RG.gT; exact rfl; exact rfl; (first | assumption | decide)) | (apply RG.gF; exact rfl; exact rfl; (first | assumption | decide | (rw [ne_eq, Bool.not_eq_true]; assumption) | (rw [ne_eq, Bool.not_eq_false]; assumption)); exact rfl) | (refine W.condA (ht := fun hb => ?_) (hf := fun hb => ?_) <;> (try simp at hb) <;> (try (exfalso; omega))))
    have e : wordF [] = false := by simp [wordF]
    rw [e]
    exact Fin.ret ResL.auto
  have hpos : 0 < s.length := List.length_pos_iff.2 h0
  repeat' (first | ((first | apply U_ | (apply Ug_; exact rfl; exact rfl) | (apply Ugq_; exact rfl; exact rfl)); (first | exact QX.B TYok | exact QX.Len TYok | exact QX.Idxs TYok | exact QCl (rletter_ok (nth s 0))); exact rfl) | refine SC ?_ | (apply RG.gT; exact rfl; exact rfl; (first | assumption | decide)) | (apply RG.gF; exact rfl; exact rfl; (first | assumption | decide | (rw [ne_eq, Bool.not_eq_true]; assumption) | (rw [ne_eq, Bool.not_eq_false]; assumption)); exact rfl) | (refine W.condA (ht := fun hb => ?_) (hf := fun hb => ?_) <;> (try simp at hb) <;> (try (exfalso; omega))))
  · have e : wordF s = false := by
      rcases hb with (h | h) | h
      · omega
      · simp [wordF, show ¬ (s.length ≤ 20) by omega]
      · simp [wordF, h]
    rw [e]
    exact Fin.ret ResL.auto
  apply W.loopP (σ := Nat) 36 [0] (fun k => 1 ≤ k ∧ k ≤ s.length ∧ wordF s = (s.drop k).all alnum) (fun k => [(3, vI k)]) (fun _ => []) (fun k => s.length - k) (1)
  case hp => repeat (first | exact Pick.nil | apply Pick.cons rfl)
  case h0 =>
    refine ⟨⟨by omega, by omega, ?_⟩, ?_⟩
    · have ha : alnum (nth s 0) = true := by simp [alnum, hb.2]
      have := all_drop (p := alnum) hpos
      rw [List.drop_zero, ha, Bool.true_and] at this
      rw [← this]
      simp [wordF, h0, hb.2, show s.length ≤ 20 by omega]
    · exact Le.auto
  case round =>
    rintro k ⟨h1, h2, h3⟩
    apply W.norm (by repeat (first | exact App.nil | apply App.cons))
    repeat' (first | ((first | apply U_ | (apply Ug_; exact rfl; exact rfl) | (apply Ugq_; exact rfl; exact rfl)); (first | exact QX.B TYok | exact QX.Len TYok | exact QX.Idxs TYok | exact QCl (rletter_ok (nth s k)) | exact QCl (rdigitS_ok (nth s k))); exact rfl) | refine SC ?_ | (apply RG.gT; exact rfl; exact rfl; (first | assumption | decide)) | (apply RG.gF; exact rfl; exact rfl; (first | assumption | decide | (rw [ne_eq, Bool.not_eq_true]; assumption) | (rw [ne_eq, Bool.not_eq_false]; assumption)); exact rfl) | (refine W.condA (ht := fun hb => ?_) (hf := fun hb => ?_) <;> (try simp at hb) <;> (try (exfalso; omega))))
    · have e : wordF s = false := by
        rw [h3, all_drop (by omega)]; simp [alnum, hb.1, hb.2]
      rw [e]
      exact Fin.ret ResL.auto
    · refine ⟨k + 1, ⟨by omega, by omega, ?_⟩, ?_, ?_⟩
      · rw [h3, all_drop (by omega)]
        have : alnum (nth s k) = true := by
          cases ha : letterF (nth s k) with
          | true => simp [alnum, ha]
          | false => simp [alnum, hb ha]
        rw [this, Bool.true_and]
      · exact Le.auto
      · (try simp only); omega
    · obtain rfl : k = s.length := by omega
      rw [List.drop_length] at h3
      rw [h3]
      exact Fin.ret ResL.auto
theorem rname_ok (s : Str) (hl : s.length ≤ 9223372036854775807) : ACalls Tryz.prog 104 [cS s] (.pv (cB (nameF s))) := by
  refine ACalls.of_W (qs := [cB (nameF s)]) [2] 20 Tryz.func104 (by kernel_rfl) rfl rfl rfl fun G => ?_
  refine W.initA (hw := ?_)
  repeat' (first | ((first | apply U_); (first | exact QX.B TYok | exact QX.Len TYok | exact QX.Idx TYok | exact QCd (rreserved_ok)); exact rfl) | refine SC ?_ | (apply S_isnil TYok; exact rfl; exact rfl; exact rfl; exact Ev.auto; intro bn hnil) | (refine W.condA (ht := fun hb => ?_) (hf := fun hb => ?_) <;> (try simp at hb) <;> (try (exfalso; omega))))
  have hR : RES.length = 50 := by decide
  apply W.loopP (σ := Nat) 20 [0, 3] (fun k => k ≤ RES.length ∧ s ∉ RES.take k) (fun k => [(4, vI k)]) (fun _ => []) (fun k => RES.length - k) (0)
  case hp => repeat (first | exact Pick.nil | apply Pick.cons rfl)
  case h0 =>
    refine ⟨by simp, ?_⟩
    exact Le.auto
  case round =>
    rintro k ⟨h1, h2⟩
    apply W.norm (by repeat (first | exact App.nil | apply App.cons))
    repeat' (first | ((first | apply U_); (first | exact QX.B TYok | exact QX.Len TYok | exact QX.Idx TYok | exact QCl (rword_ok s hl)); exact rfl) | refine SC ?_ | (apply S_isnil TYok; exact rfl; exact rfl; exact rfl; exact Ev.auto; intro bn hnil) | (refine W.condA (ht := fun hb => ?_) (hf := fun hb => ?_) <;> (try simp at hb) <;> (try (exfalso; omega))))
    · have hk : k < RES.length := by omega
      have hm : s ∈ RES := by rw [← hb]; rw [nth, List.getD, List.getElem?_eq_getElem hk]; exact List.getElem_mem hk
      have e : nameF s = false := by simp [nameF, hm]
      rw [e]
      exact Fin.ret ResL.auto
    · refine ⟨k + 1, ⟨by omega, ?_⟩, ?_, ?_⟩
      · intro hm
        rw [take_nth (by omega)] at hm
        rcases List.mem_append.1 hm with hm | hm
        · exact h2 hm
        · exact hb (List.mem_singleton.1 hm).symm
      · exact Le.auto
      · (try simp only); omega
    · obtain rfl : k = RES.length := by omega
      rw [List.take_length] at h2
      have e : nameF s = wordF s := by simp [nameF, h2]
      rw [e]
      exact Fin.ret ResL.auto
end Go.Proofs.YtjedkgogjehigaaGreat
end
section
set_option linter.unusedVariables false
set_option linter.unusedSimpArgs false
set_option maxHeartbeats 8000000
set_option linter.unusedSectionVars false
namespace Go.Proofs.YtjedkgogjehigaaGreat
open Lf Go
attribute [local irreducible] PureOp EffOp Ev RG W Then InBlock Lf.Fin nth App InitE Pick SubE EvL EvD EvP EvR ResL Lf.Lex SubR SubBR EvC FinO FinM ResM ResD FinS val pw digs trimL
theorem within_ok (a b c : Int) : ACalls Tryz.prog 103 [cI a, cI b, cI c] (.pv (cB (inF b c a))) := by
  refine ACalls.of_W (qs := [cB (inF b c a)]) [6] 15 Tryz.func103 (by kernel_rfl) rfl rfl rfl fun G => ?_
  refine W.initA (hw := ?_)
  repeat' (first | ((first | apply U_ | (apply Ug_; exact rfl; exact rfl) | (apply Ugq_; exact rfl; exact rfl)); (first | exact QX.B TYok); exact rfl) | refine SC ?_ | (apply RG.gT; exact rfl; exact rfl; (first | assumption | decide)) | (apply RG.gF; exact rfl; exact rfl; (first | assumption | decide | (rw [ne_eq, Bool.not_eq_true]; assumption) | (rw [ne_eq, Bool.not_eq_false]; assumption)); exact rfl) | (refine W.condA (ht := fun hb => ?_) (hf := fun hb => ?_) <;> (try simp at hb) <;> (try (exfalso; omega))))
  exact Fin.ret ResL.auto
theorem all_take {α : Type} [Inhabited α] {l : List α} {p : α → Bool} {k : Nat} (h : k < l.length) : (l.take (k + 1)).all p = ((l.take k).all p && p (nth l k)) := by
  rw [take_nth h]; simp
theorem rrightC {op : Int} (h : op = 16 ∨ op = 17 ∨ op = 18) {d : Nat} {n u : Int} {s : Str} {l : List Exp} (hs : s.length ≤ 9223372036854775807) (hl : l.length ≤ 9223372036854775807) (hdb : (d : Int) ≤ 100)
    (ih : ∀ x ∈ l, ACalls Tryz.prog 74 [aE x, cI (((d + 1 : Nat) : Int) - 1)] (.pv (cB (rightF d x)))) : ACalls Tryz.prog 74 [.agg [.int .i64 op, .int .i64 n, .int .i64 u, .str s, .sl (l.map encX)], cI ((d + 1 : Nat) : Int)] (.pv (cB (decide ((l.length : Int) = 1) && decide (u = 0) && inF 1 1000 n && (l.all (rightF d) && decide (s = E0))))) := by
  refine ACalls.of_W (qs := [cB (decide ((l.length : Int) = 1) && decide (u = 0) && inF 1 1000 n && (l.all (rightF d) && decide (s = E0)))]) [4] 149 Tryz.func74 (by kernel_rfl) rfl rfl rfl fun G => ?_
  refine W.initA (hw := ?_)
  repeat' (first | ((first | apply U_ | (apply Ug_; exact rfl; exact rfl) | (apply Ugq_; exact rfl; exact rfl)); (first | exact QX.B TYok | exact QX.Len TYok | exact QX.Idx TYok | exact QCl (within_ok n 1 1000)); exact rfl) | refine SX.Box TYok (h := ?_) | refine SC ?_ | (apply S_isnil TYok; exact rfl; exact rfl; exact rfl; exact Ev.auto; intro bn hnil) | (apply RG.gT; exact rfl; exact rfl; (first | assumption | decide)) | (apply RG.gF; exact rfl; exact rfl; (first | assumption | decide | (rw [ne_eq, Bool.not_eq_true]; assumption) | (rw [ne_eq, Bool.not_eq_false]; assumption)); exact rfl) | (refine W.condA (ht := fun hb => ?_) (hf := fun hb => ?_) <;> (try simp at hb) <;> (try (exfalso; omega))))
  · have e : (decide ((l.length : Int) = 1) && decide (u = 0) && inF 1 1000 n && (l.all (rightF d) && decide (s = E0))) = false := by
      rw [Bool.eq_false_iff]; intro hx; simp only [Bool.and_eq_true, decide_eq_true_eq] at hx
      obtain ⟨⟨⟨hx1, hx2⟩, hx3⟩, hx4⟩ := hx
      rw [hx3] at hb; simp [hx1, hx2] at hb; try omega
    rw [e]
    exact Fin.ret ResL.auto
  have g : decide ((l.length : Int) = 1) = true ∧ decide (u = 0) = true ∧ inF 1 1000 n = true := by
    have hq := ‹(((l.length : Int) = 1 ∧ (¬op = 0 → u = 0)) ∧ _) ∧ _›
    have hq2 : inF 1 1000 n = true := hq.2 (by omega)
    have hq1 := hq.1.1.1
    have hq3 := hq.1.1.2 (by omega)
    simp [hq1, hq2, hq3]
  rw [g.1, g.2.1, g.2.2, Bool.true_and, Bool.true_and, Bool.true_and]
  apply W.loopP (σ := Nat) 149 [1, 2] (fun k => k ≤ l.length ∧ (l.take k).all (rightF d) = true) (fun k => [(8, vI k)]) (fun _ => [(2, ⟨25, 5, [[.int .i64 op, .int .i64 n, .int .i64 u, .str s, .sl (l.map encX)]]⟩)]) (fun k => l.length - k) (0)
  case hp => repeat (first | exact Pick.nil | apply Pick.cons rfl)
  case h0 =>
    refine ⟨by simp, ?_⟩
    exact Le.auto
  case round =>
    rintro k ⟨h1, h2⟩
    apply W.norm (by repeat (first | exact App.nil | apply App.cons))
    by_cases hk : k < l.length
    · repeat' (first | ((first | apply U_ | (apply Ug_; exact rfl; exact rfl) | (apply Ugq_; exact rfl; exact rfl)); (first | exact QX.B TYok | exact QX.Len TYok | exact QX.Idx TYok | exact QCl (ih (nth l k) (nth_mem hk))); exact rfl) | refine SX.Box TYok (h := ?_) | refine SC ?_ | (apply S_isnil TYok; exact rfl; exact rfl; exact rfl; exact Ev.auto; intro bn hnil) | (apply RG.gT; exact rfl; exact rfl; (first | assumption | decide)) | (apply RG.gF; exact rfl; exact rfl; (first | assumption | decide | (rw [ne_eq, Bool.not_eq_true]; assumption) | (rw [ne_eq, Bool.not_eq_false]; assumption)); exact rfl) | (refine W.condA (ht := fun hb => ?_) (hf := fun hb => ?_) <;> (try simp at hb) <;> (try (exfalso; omega))))
      · have e : l.all (rightF d) = false := by
          rw [← Bool.not_eq_true, List.all_eq_true]; intro hx; rw [hx _ (nth_mem hk)] at hb; cases hb
        rw [e]
        exact Fin.ret ResL.auto
      · refine ⟨k + 1, ⟨by omega, ?_⟩, ?_, ?_⟩
        · rw [all_take hk, h2, hb]; rfl
        · exact Le.auto
        · (try simp only); omega
    · obtain rfl : k = l.length := by omega
      rw [List.take_length] at h2
      repeat' (first | ((first | apply U_ | (apply Ug_; exact rfl; exact rfl) | (apply Ugq_; exact rfl; exact rfl)); (first | exact QX.B TYok | exact QX.Len TYok | exact QX.Idx TYok); exact rfl) | refine SX.Box TYok (h := ?_) | refine SC ?_ | (apply S_isnil TYok; exact rfl; exact rfl; exact rfl; exact Ev.auto; intro bn hnil) | (apply RG.gT; exact rfl; exact rfl; (first | assumption | decide)) | (apply RG.gF; exact rfl; exact rfl; (first | assumption | decide | (rw [ne_eq, Bool.not_eq_true]; assumption) | (rw [ne_eq, Bool.not_eq_false]; assumption)); exact rfl) | (refine W.condA (ht := fun hb => ?_) (hf := fun hb => ?_) <;> (try simp at hb) <;> (try (exfalso; omega))))
      rw [h2]
      exact Fin.ret ResL.auto
theorem rrightD {op : Int} (h : op = 12) {d : Nat} {n u : Int} {s : Str} {l : List Exp} (hs : s.length ≤ 9223372036854775807) (hl : l.length ≤ 9223372036854775807) (hdb : (d : Int) ≤ 100)
    (ih : ∀ x ∈ l, ACalls Tryz.prog 74 [aE x, cI (((d + 1 : Nat) : Int) - 1)] (.pv (cB (rightF d x)))) : ACalls Tryz.prog 74 [.agg [.int .i64 op, .int .i64 n, .int .i64 u, .str s, .sl (l.map encX)], cI ((d + 1 : Nat) : Int)] (.pv (cB (decide ((l.length : Int) = 1) && decide (u = 0) && decide (n = 0) && (l.all (rightF d) && decide (s = E0))))) := by
  refine ACalls.of_W (qs := [cB (decide ((l.length : Int) = 1) && decide (u = 0) && decide (n = 0) && (l.all (rightF d) && decide (s = E0)))]) [4] 149 Tryz.func74 (by kernel_rfl) rfl rfl rfl fun G => ?_
  refine W.initA (hw := ?_)
  repeat' (first | ((first | apply U_ | (apply Ug_; exact rfl; exact rfl) | (apply Ugq_; exact rfl; exact rfl)); (first | exact QX.B TYok | exact QX.Len TYok | exact QX.Idx TYok | exact QCl (within_ok n 1 1000)); exact rfl) | refine SX.Box TYok (h := ?_) | refine SC ?_ | (apply S_isnil TYok; exact rfl; exact rfl; exact rfl; exact Ev.auto; intro bn hnil) | (apply RG.gT; exact rfl; exact rfl; (first | assumption | decide)) | (apply RG.gF; exact rfl; exact rfl; (first | assumption | decide | (rw [ne_eq, Bool.not_eq_true]; assumption) | (rw [ne_eq, Bool.not_eq_false]; assumption)); exact rfl) | (refine W.condA (ht := fun hb => ?_) (hf := fun hb => ?_) <;> (try simp at hb) <;> (try (exfalso; omega))))
  · have e : (decide ((l.length : Int) = 1) && decide (u = 0) && decide (n = 0) && (l.all (rightF d) && decide (s = E0))) = false := by
      rw [Bool.eq_false_iff]; intro hx; simp only [Bool.and_eq_true, decide_eq_true_eq] at hx
      obtain ⟨⟨⟨hx1, hx2⟩, hx3⟩, hx4⟩ := hx
      rw [hx3] at hb; simp [hx1, hx2] at hb; try omega
    rw [e]
    exact Fin.ret ResL.auto
  have g : decide ((l.length : Int) = 1) = true ∧ decide (u = 0) = true ∧ decide (n = 0) = true := by
    have hq := ‹(((l.length : Int) = 1 ∧ (¬op = 0 → u = 0)) ∧ _) ∧ _›
    have hq2 : n = 0 := by have := hq.2; omega
    have hq1 := hq.1.1.1
    have hq3 := hq.1.1.2 (by omega)
    simp [hq1, hq2, hq3]
  rw [g.1, g.2.1, g.2.2, Bool.true_and, Bool.true_and, Bool.true_and]
  apply W.loopP (σ := Nat) 149 [1, 2] (fun k => k ≤ l.length ∧ (l.take k).all (rightF d) = true) (fun k => [(8, vI k)]) (fun _ => [(2, ⟨25, 5, [[.int .i64 op, .int .i64 n, .int .i64 u, .str s, .sl (l.map encX)]]⟩)]) (fun k => l.length - k) (0)
  case hp => repeat (first | exact Pick.nil | apply Pick.cons rfl)
  case h0 =>
    refine ⟨by simp, ?_⟩
    exact Le.auto
  case round =>
    rintro k ⟨h1, h2⟩
    apply W.norm (by repeat (first | exact App.nil | apply App.cons))
    by_cases hk : k < l.length
    · repeat' (first | ((first | apply U_ | (apply Ug_; exact rfl; exact rfl) | (apply Ugq_; exact rfl; exact rfl)); (first | exact QX.B TYok | exact QX.Len TYok | exact QX.Idx TYok | exact QCl (ih (nth l k) (nth_mem hk))); exact rfl) | refine SX.Box TYok (h := ?_) | refine SC ?_ | (apply S_isnil TYok; exact rfl; exact rfl; exact rfl; exact Ev.auto; intro bn hnil) | (apply RG.gT; exact rfl; exact rfl; (first | assumption | decide)) | (apply RG.gF; exact rfl; exact rfl; (first | assumption | decide | (rw [ne_eq, Bool.not_eq_true]; assumption) | (rw [ne_eq, Bool.not_eq_false]; assumption)); exact rfl) | (refine W.condA (ht := fun hb => ?_) (hf := fun hb => ?_) <;> (try simp at hb) <;> (try (exfalso; omega))))
      · have e : l.all (rightF d) = false := by
          rw [← Bool.not_eq_true, List.all_eq_true]; intro hx; rw [hx _ (nth_mem hk)] at hb; cases hb
        rw [e]
        exact Fin.ret ResL.auto
      · refine ⟨k + 1, ⟨by omega, ?_⟩, ?_, ?_⟩
        · rw [all_take hk, h2, hb]; rfl
        · exact Le.auto
        · (try simp only); omega
    · obtain rfl : k = l.length := by omega
      rw [List.take_length] at h2
      repeat' (first | ((first | apply U_ | (apply Ug_; exact rfl; exact rfl) | (apply Ugq_; exact rfl; exact rfl)); (first | exact QX.B TYok | exact QX.Len TYok | exact QX.Idx TYok); exact rfl) | refine SX.Box TYok (h := ?_) | refine SC ?_ | (apply S_isnil TYok; exact rfl; exact rfl; exact rfl; exact Ev.auto; intro bn hnil) | (apply RG.gT; exact rfl; exact rfl; (first | assumption | decide)) | (apply RG.gF; exact rfl; exact rfl; (first | assumption | decide | (rw [ne_eq, Bool.not_eq_true]; assumption) | (rw [ne_eq, Bool.not_eq_false]; assumption)); exact rfl) | (refine W.condA (ht := fun hb => ?_) (hf := fun hb => ?_) <;> (try simp at hb) <;> (try (exfalso; omega))))
      rw [h2]
      exact Fin.ret ResL.auto
theorem rrightE {op : Int} (h : op = 15) {d : Nat} {n u : Int} {s : Str} {l : List Exp} (hs : s.length ≤ 9223372036854775807) (hl : l.length ≤ 9223372036854775807) (hdb : (d : Int) ≤ 100)
    (ih : ∀ x ∈ l, ACalls Tryz.prog 74 [aE x, cI (((d + 1 : Nat) : Int) - 1)] (.pv (cB (rightF d x)))) : ACalls Tryz.prog 74 [.agg [.int .i64 op, .int .i64 n, .int .i64 u, .str s, .sl (l.map encX)], cI ((d + 1 : Nat) : Int)] (.pv (cB (decide ((l.length : Int) = 3) && decide (u = 0) && decide (n = 0) && (l.all (rightF d) && decide (s = E0))))) := by
  refine ACalls.of_W (qs := [cB (decide ((l.length : Int) = 3) && decide (u = 0) && decide (n = 0) && (l.all (rightF d) && decide (s = E0)))]) [4] 149 Tryz.func74 (by kernel_rfl) rfl rfl rfl fun G => ?_
  refine W.initA (hw := ?_)
  repeat' (first | ((first | apply U_ | (apply Ug_; exact rfl; exact rfl) | (apply Ugq_; exact rfl; exact rfl)); (first | exact QX.B TYok | exact QX.Len TYok | exact QX.Idx TYok | exact QCl (within_ok n 1 1000)); exact rfl) | refine SX.Box TYok (h := ?_) | refine SC ?_ | (apply S_isnil TYok; exact rfl; exact rfl; exact rfl; exact Ev.auto; intro bn hnil) | (apply RG.gT; exact rfl; exact rfl; (first | assumption | decide)) | (apply RG.gF; exact rfl; exact rfl; (first | assumption | decide | (rw [ne_eq, Bool.not_eq_true]; assumption) | (rw [ne_eq, Bool.not_eq_false]; assumption)); exact rfl) | (refine W.condA (ht := fun hb => ?_) (hf := fun hb => ?_) <;> (try simp at hb) <;> (try (exfalso; omega))))
  · have e : (decide ((l.length : Int) = 3) && decide (u = 0) && decide (n = 0) && (l.all (rightF d) && decide (s = E0))) = false := by
      rw [Bool.eq_false_iff]; intro hx; simp only [Bool.and_eq_true, decide_eq_true_eq] at hx
      obtain ⟨⟨⟨hx1, hx2⟩, hx3⟩, hx4⟩ := hx
      rw [hx3] at hb; simp [hx1, hx2] at hb; try omega
    rw [e]
    exact Fin.ret ResL.auto
  have g : decide ((l.length : Int) = 3) = true ∧ decide (u = 0) = true ∧ decide (n = 0) = true := by
    have hq := ‹(((l.length : Int) = 3 ∧ (¬op = 0 → u = 0)) ∧ _) ∧ _›
    have hq2 : n = 0 := by have := hq.2; omega
    have hq1 := hq.1.1.1
    have hq3 := hq.1.1.2 (by omega)
    simp [hq1, hq2, hq3]
  rw [g.1, g.2.1, g.2.2, Bool.true_and, Bool.true_and, Bool.true_and]
  apply W.loopP (σ := Nat) 149 [1, 2] (fun k => k ≤ l.length ∧ (l.take k).all (rightF d) = true) (fun k => [(8, vI k)]) (fun _ => [(2, ⟨25, 5, [[.int .i64 op, .int .i64 n, .int .i64 u, .str s, .sl (l.map encX)]]⟩)]) (fun k => l.length - k) (0)
  case hp => repeat (first | exact Pick.nil | apply Pick.cons rfl)
  case h0 =>
    refine ⟨by simp, ?_⟩
    exact Le.auto
  case round =>
    rintro k ⟨h1, h2⟩
    apply W.norm (by repeat (first | exact App.nil | apply App.cons))
    by_cases hk : k < l.length
    · repeat' (first | ((first | apply U_ | (apply Ug_; exact rfl; exact rfl) | (apply Ugq_; exact rfl; exact rfl)); (first | exact QX.B TYok | exact QX.Len TYok | exact QX.Idx TYok | exact QCl (ih (nth l k) (nth_mem hk))); exact rfl) | refine SX.Box TYok (h := ?_) | refine SC ?_ | (apply S_isnil TYok; exact rfl; exact rfl; exact rfl; exact Ev.auto; intro bn hnil) | (apply RG.gT; exact rfl; exact rfl; (first | assumption | decide)) | (apply RG.gF; exact rfl; exact rfl; (first | assumption | decide | (rw [ne_eq, Bool.not_eq_true]; assumption) | (rw [ne_eq, Bool.not_eq_false]; assumption)); exact rfl) | (refine W.condA (ht := fun hb => ?_) (hf := fun hb => ?_) <;> (try simp at hb) <;> (try (exfalso; omega))))
      · have e : l.all (rightF d) = false := by
          rw [← Bool.not_eq_true, List.all_eq_true]; intro hx; rw [hx _ (nth_mem hk)] at hb; cases hb
        rw [e]
        exact Fin.ret ResL.auto
      · refine ⟨k + 1, ⟨by omega, ?_⟩, ?_, ?_⟩
        · rw [all_take hk, h2, hb]; rfl
        · exact Le.auto
        · (try simp only); omega
    · obtain rfl : k = l.length := by omega
      rw [List.take_length] at h2
      repeat' (first | ((first | apply U_ | (apply Ug_; exact rfl; exact rfl) | (apply Ugq_; exact rfl; exact rfl)); (first | exact QX.B TYok | exact QX.Len TYok | exact QX.Idx TYok); exact rfl) | refine SX.Box TYok (h := ?_) | refine SC ?_ | (apply S_isnil TYok; exact rfl; exact rfl; exact rfl; exact Ev.auto; intro bn hnil) | (apply RG.gT; exact rfl; exact rfl; (first | assumption | decide)) | (apply RG.gF; exact rfl; exact rfl; (first | assumption | decide | (rw [ne_eq, Bool.not_eq_true]; assumption) | (rw [ne_eq, Bool.not_eq_false]; assumption)); exact rfl) | (refine W.condA (ht := fun hb => ?_) (hf := fun hb => ?_) <;> (try simp at hb) <;> (try (exfalso; omega))))
      rw [h2]
      exact Fin.ret ResL.auto
theorem rrightF {op : Int} (h : 4 ≤ op ∧ op ≤ 14 ∧ op ≠ 12) {d : Nat} {n u : Int} {s : Str} {l : List Exp} (hs : s.length ≤ 9223372036854775807) (hl : l.length ≤ 9223372036854775807) (hdb : (d : Int) ≤ 100)
    (ih : ∀ x ∈ l, ACalls Tryz.prog 74 [aE x, cI (((d + 1 : Nat) : Int) - 1)] (.pv (cB (rightF d x)))) : ACalls Tryz.prog 74 [.agg [.int .i64 op, .int .i64 n, .int .i64 u, .str s, .sl (l.map encX)], cI ((d + 1 : Nat) : Int)] (.pv (cB (decide ((l.length : Int) = 2) && decide (u = 0) && decide (n = 0) && (l.all (rightF d) && decide (s = E0))))) := by
  refine ACalls.of_W (qs := [cB (decide ((l.length : Int) = 2) && decide (u = 0) && decide (n = 0) && (l.all (rightF d) && decide (s = E0)))]) [4] 149 Tryz.func74 (by kernel_rfl) rfl rfl rfl fun G => ?_
  refine W.initA (hw := ?_)
  repeat' (first | ((first | apply U_ | (apply Ug_; exact rfl; exact rfl) | (apply Ugq_; exact rfl; exact rfl)); (first | exact QX.B TYok | exact QX.Len TYok | exact QX.Idx TYok | exact QCl (within_ok n 1 1000)); exact rfl) | refine SX.Box TYok (h := ?_) | refine SC ?_ | (apply S_isnil TYok; exact rfl; exact rfl; exact rfl; exact Ev.auto; intro bn hnil) | (apply RG.gT; exact rfl; exact rfl; (first | assumption | decide)) | (apply RG.gF; exact rfl; exact rfl; (first | assumption | decide | (rw [ne_eq, Bool.not_eq_true]; assumption) | (rw [ne_eq, Bool.not_eq_false]; assumption)); exact rfl) | (refine W.condA (ht := fun hb => ?_) (hf := fun hb => ?_) <;> (try simp at hb) <;> (try (exfalso; omega))))
  · have e : (decide ((l.length : Int) = 2) && decide (u = 0) && decide (n = 0) && (l.all (rightF d) && decide (s = E0))) = false := by
      rw [Bool.eq_false_iff]; intro hx; simp only [Bool.and_eq_true, decide_eq_true_eq] at hx
      obtain ⟨⟨⟨hx1, hx2⟩, hx3⟩, hx4⟩ := hx
      rw [hx3] at hb; simp [hx1, hx2] at hb; try omega
    rw [e]
    exact Fin.ret ResL.auto
  have g : decide ((l.length : Int) = 2) = true ∧ decide (u = 0) = true ∧ decide (n = 0) = true := by
    have hq := ‹(((l.length : Int) = 2 ∧ (¬op = 0 → u = 0)) ∧ _) ∧ _›
    have hq2 : n = 0 := by have := hq.2; omega
    have hq1 := hq.1.1.1
    have hq3 := hq.1.1.2 (by omega)
    simp [hq1, hq2, hq3]
  rw [g.1, g.2.1, g.2.2, Bool.true_and, Bool.true_and, Bool.true_and]
  apply W.loopP (σ := Nat) 149 [1, 2] (fun k => k ≤ l.length ∧ (l.take k).all (rightF d) = true) (fun k => [(8, vI k)]) (fun _ => [(2, ⟨25, 5, [[.int .i64 op, .int .i64 n, .int .i64 u, .str s, .sl (l.map encX)]]⟩)]) (fun k => l.length - k) (0)
  case hp => repeat (first | exact Pick.nil | apply Pick.cons rfl)
  case h0 =>
    refine ⟨by simp, ?_⟩
    exact Le.auto
  case round =>
    rintro k ⟨h1, h2⟩
    apply W.norm (by repeat (first | exact App.nil | apply App.cons))
    by_cases hk : k < l.length
    · repeat' (first | ((first | apply U_ | (apply Ug_; exact rfl; exact rfl) | (apply Ugq_; exact rfl; exact rfl)); (first | exact QX.B TYok | exact QX.Len TYok | exact QX.Idx TYok | exact QCl (ih (nth l k) (nth_mem hk))); exact rfl) | refine SX.Box TYok (h := ?_) | refine SC ?_ | (apply S_isnil TYok; exact rfl; exact rfl; exact rfl; exact Ev.auto; intro bn hnil) | (apply RG.gT; exact rfl; exact rfl; (first | assumption | decide)) | (apply RG.gF; exact rfl; exact rfl; (first | assumption | decide | (rw [ne_eq, Bool.not_eq_true]; assumption) | (rw [ne_eq, Bool.not_eq_false]; assumption)); exact rfl) | (refine W.condA (ht := fun hb => ?_) (hf := fun hb => ?_) <;> (try simp at hb) <;> (try (exfalso; omega))))
      · have e : l.all (rightF d) = false := by
          rw [← Bool.not_eq_true, List.all_eq_true]; intro hx; rw [hx _ (nth_mem hk)] at hb; cases hb
        rw [e]
        exact Fin.ret ResL.auto
      · refine ⟨k + 1, ⟨by omega, ?_⟩, ?_, ?_⟩
        · rw [all_take hk, h2, hb]; rfl
        · exact Le.auto
        · (try simp only); omega
    · obtain rfl : k = l.length := by omega
      rw [List.take_length] at h2
      repeat' (first | ((first | apply U_ | (apply Ug_; exact rfl; exact rfl) | (apply Ugq_; exact rfl; exact rfl)); (first | exact QX.B TYok | exact QX.Len TYok | exact QX.Idx TYok); exact rfl) | refine SX.Box TYok (h := ?_) | refine SC ?_ | (apply S_isnil TYok; exact rfl; exact rfl; exact rfl; exact Ev.auto; intro bn hnil) | (apply RG.gT; exact rfl; exact rfl; (first | assumption | decide)) | (apply RG.gF; exact rfl; exact rfl; (first | assumption | decide | (rw [ne_eq, Bool.not_eq_true]; assumption) | (rw [ne_eq, Bool.not_eq_false]; assumption)); exact rfl) | (refine W.condA (ht := fun hb => ?_) (hf := fun hb => ?_) <;> (try simp at hb) <;> (try (exfalso; omega))))
      rw [h2]
      exact Fin.ret ResL.auto
theorem rrightA {d : Nat} {n u : Int} {s : Str} {l : List Exp} (hs : s.length ≤ 9223372036854775807) (hl : l.length ≤ 9223372036854775807) (hdb : (d : Int) ≤ 100) :
    ACalls Tryz.prog 74 [.agg [.int .i64 0, .int .i64 n, .int .i64 u, .str s, .sl (l.map encX)], cI ((d + 1 : Nat) : Int)] (.pv (cB (decide ((l.length : Int) = 0) && (decide (s = E0) && inF 0 4 u && inF 0 (if u = 4 then 1 else 1000000000000000) n)))) := by
  refine ACalls.of_W (qs := [cB (decide ((l.length : Int) = 0) && (decide (s = E0) && inF 0 4 u && inF 0 (if u = 4 then 1 else 1000000000000000) n))]) [4] 149 Tryz.func74 (by kernel_rfl) rfl rfl rfl fun G => ?_
  refine W.initA (hw := ?_)
  repeat' (first | ((first | apply U_ | (apply Ug_; exact rfl; exact rfl) | (apply Ugq_; exact rfl; exact rfl)); (first | exact QX.B TYok | exact QX.Len TYok | exact QX.Idx TYok | exact QCl (within_ok n 1 1000) | exact QCl (within_ok u 0 4) | exact QCl (within_ok n 0 1000000000000000)); exact rfl) | refine SX.Box TYok (h := ?_) | refine SC ?_ | (apply S_isnil TYok; exact rfl; exact rfl; exact rfl; exact Ev.auto; intro bn hnil) | (apply RG.gT; exact rfl; exact rfl; (first | assumption | decide)) | (apply RG.gF; exact rfl; exact rfl; (first | assumption | decide | (rw [ne_eq, Bool.not_eq_true]; assumption) | (rw [ne_eq, Bool.not_eq_false]; assumption)); exact rfl) | (refine W.condA (ht := fun hb => ?_) (hf := fun hb => ?_) <;> (try simp at hb) <;> (try (exfalso; omega))))
  · have e : (decide ((l.length : Int) = 0) && (decide (s = E0) && inF 0 4 u && inF 0 (if u = 4 then 1 else 1000000000000000) n)) = false := by
      rw [Bool.eq_false_iff]; intro hx; simp only [Bool.and_eq_true, decide_eq_true_eq] at hx
      have hl0 : l = [] := List.length_eq_zero_iff.1 (by omega)
      exact hb hl0
    rw [e]
    exact Fin.ret ResL.auto
  · have hl0 : l = [] := ‹l = []›
    have hq : (l.length : Int) = 0 := by rw [hl0]; rfl
    have e : (decide ((l.length : Int) = 0) && (decide (s = E0) && inF 0 4 u && inF 0 (if u = 4 then 1 else 1000000000000000) n)) = (decide (s = E0) && inF 0 4 u && inF 0 1000000000000000 n && (!decide (u = 4) || decide (n ≤ 1))) := by
      rw [hq]
      by_cases h4 : u = 4
      · simp only [h4, if_true, inF]
        cases decide (s = E0) <;> simp
        rw [Bool.eq_iff_iff]; simp; omega
      · simp [h4]
    rw [e]
    exact Fin.ret ResL.auto
theorem rrightB {op : Int} (h : op = 1 ∨ op = 2 ∨ op = 3) {d : Nat} {n u : Int} {s : Str} {l : List Exp} (hs : s.length ≤ 9223372036854775807) (hl : l.length ≤ 9223372036854775807) (hdb : (d : Int) ≤ 100) :
    ACalls Tryz.prog 74 [.agg [.int .i64 op, .int .i64 n, .int .i64 u, .str s, .sl (l.map encX)], cI ((d + 1 : Nat) : Int)] (.pv (cB (decide ((l.length : Int) = 0) && (decide (n = 0) && decide (u = 0) && nameF s)))) := by
  refine ACalls.of_W (qs := [cB (decide ((l.length : Int) = 0) && (decide (n = 0) && decide (u = 0) && nameF s))]) [4] 149 Tryz.func74 (by kernel_rfl) rfl rfl rfl fun G => ?_
  refine W.initA (hw := ?_)
  repeat' (first | ((first | apply U_ | (apply Ug_; exact rfl; exact rfl) | (apply Ugq_; exact rfl; exact rfl)); (first | exact QX.B TYok | exact QX.Len TYok | exact QX.Idx TYok | exact QCl (within_ok n 1 1000) | exact QCl (rname_ok s (by omega))); exact rfl) | refine SX.Box TYok (h := ?_) | refine SC ?_ | (apply S_isnil TYok; exact rfl; exact rfl; exact rfl; exact Ev.auto; intro bn hnil) | (apply RG.gT; exact rfl; exact rfl; (first | assumption | decide)) | (apply RG.gF; exact rfl; exact rfl; (first | assumption | decide | (rw [ne_eq, Bool.not_eq_true]; assumption) | (rw [ne_eq, Bool.not_eq_false]; assumption)); exact rfl) | (refine W.condA (ht := fun hb => ?_) (hf := fun hb => ?_) <;> (try simp at hb) <;> (try (exfalso; omega))))
  · have e : (decide ((l.length : Int) = 0) && (decide (n = 0) && decide (u = 0) && nameF s)) = false := by
      rw [Bool.eq_false_iff]; intro hx; simp only [Bool.and_eq_true, decide_eq_true_eq] at hx
      have hl0 : l = [] := List.length_eq_zero_iff.1 (by omega)
      simp [hl0, hx.2.1.1, hx.2.1.2] at hb
      omega
    rw [e]
    exact Fin.ret ResL.auto
  · have hq := ‹((l = [] ∧ (¬op = 0 → u = 0)) ∧ _) ∧ _›
    have hq2 : n = 0 := by have := hq.2; have := hq.1.2; omega
    have hq1 : (l.length : Int) = 0 := by rw [hq.1.1.1]; rfl
    have hq3 := hq.1.1.2 (by omega)
    have e : (decide ((l.length : Int) = 0) && (decide (n = 0) && decide (u = 0) && nameF s)) = nameF s := by
      rw [hq1, hq2, hq3]; simp
    rw [e]
    exact Fin.ret ResL.auto
theorem rrightG {op : Int} {d : Nat} (h : d = 0 ∨ op < 0 ∨ op ≥ 19) (hdb : (d : Int) ≤ 101) {n u : Int} {s : Str} {l : List Exp} (hs : s.length ≤ 9223372036854775807) (hl : l.length ≤ 9223372036854775807) :
    ACalls Tryz.prog 74 [.agg [.int .i64 op, .int .i64 n, .int .i64 u, .str s, .sl (l.map encX)], cI (d : Int)] (.pv (cB false)) := by
  refine ACalls.of_W (qs := [cB false]) [4] 149 Tryz.func74 (by kernel_rfl) rfl rfl rfl fun G => ?_
  refine W.initA (hw := ?_)
  repeat' (first | ((first | apply U_ | (apply Ug_; exact rfl; exact rfl) | (apply Ugq_; exact rfl; exact rfl)); (first | exact QX.B TYok | exact QX.Len TYok | exact QX.Idx TYok); exact rfl) | refine SX.Box TYok (h := ?_) | refine SC ?_ | (apply S_isnil TYok; exact rfl; exact rfl; exact rfl; exact Ev.auto; intro bn hnil) | (apply RG.gT; exact rfl; exact rfl; (first | assumption | decide)) | (apply RG.gF; exact rfl; exact rfl; (first | assumption | decide | (rw [ne_eq, Bool.not_eq_true]; assumption) | (rw [ne_eq, Bool.not_eq_false]; assumption)); exact rfl) | (refine W.condA (ht := fun hb => ?_) (hf := fun hb => ?_) <;> (try simp at hb) <;> (try (exfalso; omega))))
  exact Fin.ret ResL.auto
theorem rrightX_ok : ∀ (d : Nat) (e : Exp), d ≤ 100 → OkE e → ACalls Tryz.prog 74 [aE e, cI (d : Int)] (.pv (cB (rightF d e)))
  | 0, .mk op n u s l, _, he => by
    cases he with
    | mk hs hl h => rw [aE_mk, rightF]; exact rrightG (.inl rfl) (by decide) hs hl
  | d + 1, .mk op n u s l, hd, he => by
    cases he with
    | mk hs hl h =>
    have hdb : (d : Int) ≤ 100 := by omega
    have ih : ∀ x ∈ l, ACalls Tryz.prog 74 [aE x, cI (((d + 1 : Nat) : Int) - 1)] (.pv (cB (rightF d x))) := by
      intro x hx
      rw [show (((d + 1 : Nat) : Int) - 1) = (d : Int) by omega]
      exact rrightX_ok d x (by omega) (h x hx)
    rw [aE_mk, rightF]
    by_cases h0 : op = 0
    · subst h0
      have := rrightA (d := d) (n := n) (u := u) hs hl hdb
      exact this
    by_cases h1 : op = 1 ∨ op = 2 ∨ op = 3
    · have := rrightB h1 (d := d) (n := n) (u := u) hs hl hdb
      have e : opsF op = 0 := by unfold opsF; rw [if_pos (by omega)]
      rw [e, if_neg h0, if_pos h1]
      exact this
    rw [if_neg h0, if_neg h1]
    by_cases h2 : op = 16 ∨ op = 17 ∨ op = 18
    · have := rrightC h2 (n := n) (u := u) hs hl hdb ih
      have e : opsF op = 1 := by unfold opsF; rw [if_neg (by omega), if_pos (by omega)]
      rw [e, if_pos h2]
      have e2 : (decide ((l.length : Int) = 1) && (decide (u = 0) && decide (s = []) && inF 1 1000 n && l.all (rightF d))) = (decide ((l.length : Int) = 1) && decide (u = 0) && inF 1 1000 n && (l.all (rightF d) && decide (s = E0))) := by
        show _ = (decide ((l.length : Int) = 1) && decide (u = 0) && inF 1 1000 n && (l.all (rightF d) && decide (s = [])))
        simp only [Bool.and_assoc, Bool.and_comm, Bool.and_left_comm]
      rw [e2]
      exact this
    rw [if_neg h2]
    have e2 : ∀ m : Int, (decide ((l.length : Int) = m) && (decide (n = 0) && decide (u = 0) && decide (s = []) && l.all (rightF d))) = (decide ((l.length : Int) = m) && decide (u = 0) && decide (n = 0) && (l.all (rightF d) && decide (s = E0))) := by
      intro m
      show _ = (decide ((l.length : Int) = m) && decide (u = 0) && decide (n = 0) && (l.all (rightF d) && decide (s = [])))
      simp only [Bool.and_assoc, Bool.and_comm, Bool.and_left_comm]
    rw [e2]
    by_cases h3 : op = 12
    · have e : opsF op = 1 := by unfold opsF; rw [if_neg (by omega), if_pos (by omega)]
      rw [e]
      exact rrightD h3 (n := n) (u := u) hs hl hdb ih
    by_cases h4 : op = 15
    · have e : opsF op = 3 := by unfold opsF; rw [if_neg (by omega), if_neg (by omega), if_pos (by omega)]
      rw [e]
      exact rrightE h4 (n := n) (u := u) hs hl hdb ih
    by_cases h5 : op < 0 ∨ op ≥ 19
    · have e : opsF op = -1 := by unfold opsF; rw [if_neg (by omega), if_neg (by omega), if_neg (by omega), if_pos (by omega)]
      rw [e, decide_eq_false (by omega)]
      exact rrightG (.inr h5) (by omega) hs hl
    · have e : opsF op = 2 := by unfold opsF; rw [if_neg (by omega), if_neg (by omega), if_neg (by omega), if_neg (by omega)]
      rw [e]
      exact rrightF (by omega) (n := n) (u := u) hs hl hdb ih
end Go.Proofs.YtjedkgogjehigaaGreat
end
section
set_option linter.unusedVariables false
set_option linter.unusedSimpArgs false
set_option maxHeartbeats 8000000
set_option linter.unusedSectionVars false
namespace Go.Proofs.YtjedkgogjehigaaGreat
open Lf Go
attribute [local irreducible] PureOp EffOp Ev RG W Then InBlock Lf.Fin nth App InitE Pick SubE EvL EvD EvP EvR ResL Lf.Lex SubR SubBR EvC FinO FinM ResM ResD FinS val pw digs trimL
section
theorem rtemp_ok (e : Exp) : OkE e → ACalls Tryz.prog 49 [aE e] (.pv (cB (tempF e))) := by
  refine Exp.ind (P := fun e => OkE e → ACalls Tryz.prog 49 [aE e] (.pv (cB (tempF e)))) (fun op n u s l ih he => ?_) e
  cases he with
  | mk hs hl h =>
  rw [aE_mk, tempF, tempFs_any]
  refine ACalls.of_W (qs := [cB (((decide (op = 16) || decide (op = 17)) || decide (op = 18)) || l.any tempF)]) [2] 30 Tryz.func49 (by kernel_rfl) rfl rfl rfl fun G => ?_
  refine W.initA (hw := ?_)
  by_cases ho : (op = 16 ∨ op = 17) ∨ op = 18
  · have e : ((decide (op = 16) || decide (op = 17)) || decide (op = 18)) = true := by simpa using ho
    rw [e, Bool.true_or]
    repeat' (first | ((first | apply U_ | (apply Ug_; exact rfl; exact rfl) | (apply Ugq_; exact rfl; exact rfl)); (first | exact QX.B TYok | exact QX.Len TYok | exact QX.Idx TYok); exact rfl) | refine SX.Box TYok (h := ?_) | refine SC ?_ | (apply S_isnil TYok; exact rfl; exact rfl; exact rfl; exact Ev.auto; intro bn hnil) | (apply RG.gT; exact rfl; exact rfl; (first | assumption | decide)) | (apply RG.gF; exact rfl; exact rfl; (first | assumption | decide | (rw [ne_eq, Bool.not_eq_true]; assumption) | (rw [ne_eq, Bool.not_eq_false]; assumption)); exact rfl) | (refine W.condA (ht := fun hb => ?_) (hf := fun hb => ?_) <;> (try simp at hb) <;> (try (exfalso; omega))))
    all_goals first
      | exact Fin.ret ResL.auto
      | (exfalso; omega)
      | trace_state
  · have e : ((decide (op = 16) || decide (op = 17)) || decide (op = 18)) = false := by
      rw [← Bool.not_eq_true]; simpa using ho
    rw [e, Bool.false_or]
    repeat' (first | ((first | apply U_ | (apply Ug_; exact rfl; exact rfl) | (apply Ugq_; exact rfl; exact rfl)); (first | exact QX.B TYok | exact QX.Len TYok | exact QX.Idx TYok); exact rfl) | refine SX.Box TYok (h := ?_) | refine SC ?_ | (apply S_isnil TYok; exact rfl; exact rfl; exact rfl; exact Ev.auto; intro bn hnil) | (apply RG.gT; exact rfl; exact rfl; (first | assumption | decide)) | (apply RG.gF; exact rfl; exact rfl; (first | assumption | decide | (rw [ne_eq, Bool.not_eq_true]; assumption) | (rw [ne_eq, Bool.not_eq_false]; assumption)); exact rfl) | (refine W.condA (ht := fun hb => ?_) (hf := fun hb => ?_) <;> (try simp at hb) <;> (try (exfalso; omega))))
    all_goals try (exfalso; omega)
    apply W.loopP (σ := Nat) 30 [1] (fun k => k ≤ l.length ∧ (l.take k).any tempF = false) (fun k => [(3, vI k)]) (fun _ => [(1, ⟨25, 5, [[.int .i64 op, .int .i64 n, .int .i64 u, .str s, .sl (l.map encX)]]⟩)]) (fun k => l.length - k) (0)
    case hp => repeat (first | exact Pick.nil | apply Pick.cons rfl)
    case h0 =>
      refine ⟨by simp, ?_⟩
      exact Le.auto
    case round =>
      rintro k ⟨h1, h2⟩
      apply W.norm (by repeat (first | exact App.nil | apply App.cons))
      by_cases hk : k < l.length
      · have hi := ih _ (nth_mem hk) (h _ (nth_mem hk))
        cases hc : tempF (nth l k) with
        | true =>
          rw [hc] at hi
          rw [List.any_eq_true.2 ⟨_, nth_mem hk, hc⟩]
          repeat' (first | ((first | apply U_ | (apply Ug_; exact rfl; exact rfl) | (apply Ugq_; exact rfl; exact rfl)); (first | exact QX.B TYok | exact QX.Len TYok | exact QX.Idx TYok | exact QCd (hi)); exact rfl) | refine SX.Box TYok (h := ?_) | refine SC ?_ | (apply S_isnil TYok; exact rfl; exact rfl; exact rfl; exact Ev.auto; intro bn hnil) | (apply RG.gT; exact rfl; exact rfl; (first | assumption | decide)) | (apply RG.gF; exact rfl; exact rfl; (first | assumption | decide | (rw [ne_eq, Bool.not_eq_true]; assumption) | (rw [ne_eq, Bool.not_eq_false]; assumption)); exact rfl) | (refine W.condA (ht := fun hb => ?_) (hf := fun hb => ?_) <;> (try simp at hb) <;> (try (exfalso; omega))))
          all_goals first
            | exact Fin.ret ResL.auto
            | (exfalso; omega)
            | trace_state
        | false =>
          rw [hc] at hi
          repeat' (first | ((first | apply U_ | (apply Ug_; exact rfl; exact rfl) | (apply Ugq_; exact rfl; exact rfl)); (first | exact QX.B TYok | exact QX.Len TYok | exact QX.Idx TYok | exact QCd (hi)); exact rfl) | refine SX.Box TYok (h := ?_) | refine SC ?_ | (apply S_isnil TYok; exact rfl; exact rfl; exact rfl; exact Ev.auto; intro bn hnil) | (apply RG.gT; exact rfl; exact rfl; (first | assumption | decide)) | (apply RG.gF; exact rfl; exact rfl; (first | assumption | decide | (rw [ne_eq, Bool.not_eq_true]; assumption) | (rw [ne_eq, Bool.not_eq_false]; assumption)); exact rfl) | (refine W.condA (ht := fun hb => ?_) (hf := fun hb => ?_) <;> (try simp at hb) <;> (try (exfalso; omega))))
          all_goals first
            | (refine ⟨k + 1, ⟨by omega, by rw [any_take hk, h2, hc]; rfl⟩, ?_, by (try simp only); omega⟩; exact Le.auto)
            | (exfalso; omega)
            | trace_state
      · obtain rfl : k = l.length := by omega
        rw [List.take_length] at h2
        rw [h2]
        repeat' (first | ((first | apply U_ | (apply Ug_; exact rfl; exact rfl) | (apply Ugq_; exact rfl; exact rfl)); (first | exact QX.B TYok | exact QX.Len TYok | exact QX.Idx TYok); exact rfl) | refine SX.Box TYok (h := ?_) | refine SC ?_ | (apply S_isnil TYok; exact rfl; exact rfl; exact rfl; exact Ev.auto; intro bn hnil) | (apply RG.gT; exact rfl; exact rfl; (first | assumption | decide)) | (apply RG.gF; exact rfl; exact rfl; (first | assumption | decide | (rw [ne_eq, Bool.not_eq_true]; assumption) | (rw [ne_eq, Bool.not_eq_false]; assumption)); exact rfl) | (refine W.condA (ht := fun hb => ?_) (hf := fun hb => ?_) <;> (try simp at hb) <;> (try (exfalso; omega))))
        all_goals exact Fin.ret ResL.auto
theorem rfracs_ok (L : List Fq) (hL : L.length ≤ 9223372036854775807) (hq : ∀ q ∈ L, FqOk q) : ACalls Tryz.prog 50 [slF L] (.pv (cB (!(L.any fun q => !q.right)))) := by
  refine ACalls.of_W (qs := [cB (!(L.any fun q => !q.right))]) [2] 16 Tryz.func50 (by kernel_rfl) rfl rfl rfl fun G => ?_
  refine W.initA (hw := ?_)
  repeat' (first | ((first | apply U_); (first | exact QX.B TYok | exact QX.Len TYok | exact QX.Idx TYok); exact rfl) | refine SC ?_ | (refine W.condA (ht := fun hb => ?_) (hf := fun hb => ?_) <;> (try simp at hb) <;> (try (exfalso; omega))))
  apply W.loopP (σ := Nat) 16 [0] (fun k => k ≤ L.length ∧ (L.take k).any (fun q => !q.right) = false) (fun k => [(3, vI k)]) (fun _ => []) (fun k => L.length - k) (0)
  case hp => repeat (first | exact Pick.nil | apply Pick.cons rfl)
  case h0 =>
    refine ⟨by simp, ?_⟩
    exact Le.auto
  case round =>
    rintro k ⟨h1, h2⟩
    apply W.norm (by repeat (first | exact App.nil | apply App.cons))
    by_cases hk : k < L.length
    · have o := hq _ (nth_mem hk)
      have hi := qright_ok (nth L k).s (nth L k).d (nth L k).s' (nth L k).d' o.1 o.2
      have hd : (nth L k).right = rightFB (nth L k).s (nth L k).d (nth L k).s' (nth L k).d' := rfl
      rw [← hd] at hi
      cases hc : (nth L k).right with
      | false =>
        rw [hc] at hi
        rw [List.any_eq_true.2 ⟨_, nth_mem hk, by rw [hc]; rfl⟩]
        repeat' (first | ((first | apply U_); (first | exact QX.B TYok | exact QX.Len TYok | exact QX.Idx TYok | exact QCd (hi)); exact rfl) | refine SC ?_ | (refine W.condA (ht := fun hb => ?_) (hf := fun hb => ?_) <;> (try simp at hb) <;> (try (exfalso; omega))))
        all_goals first
          | exact Fin.ret ResL.auto
          | (exfalso; omega)
          | trace_state
      | true =>
        rw [hc] at hi
        repeat' (first | ((first | apply U_); (first | exact QX.B TYok | exact QX.Len TYok | exact QX.Idx TYok | exact QCd (hi)); exact rfl) | refine SC ?_ | (refine W.condA (ht := fun hb => ?_) (hf := fun hb => ?_) <;> (try simp at hb) <;> (try (exfalso; omega))))
        all_goals first
          | (refine ⟨k + 1, ⟨by omega, by rw [any_take hk, h2, hc]; rfl⟩, ?_, by (try simp only); omega⟩; exact Le.auto)
          | (exfalso; omega)
          | trace_state
    · obtain rfl : k = L.length := by omega
      rw [List.take_length] at h2
      rw [h2]
      repeat' (first | ((first | apply U_); (first | exact QX.B TYok | exact QX.Len TYok | exact QX.Idx TYok); exact rfl) | refine SC ?_ | (refine W.condA (ht := fun hb => ?_) (hf := fun hb => ?_) <;> (try simp at hb) <;> (try (exfalso; omega))))
      all_goals exact Fin.ret ResL.auto
theorem rrightE_ok (e : Exp) (he : OkE e) : ACalls Tryz.prog 48 [aE e] (.pv (cB (rightF 12 e))) := by
  have h := rrightX_ok 12 e (by omega) he
  refine ACalls.of_W (qs := [cB (rightF 12 e)]) [2] 5 Tryz.func48 (by kernel_rfl) rfl rfl rfl fun G => ?_
  refine W.initA (hw := ?_)
  repeat' (first | ((first | apply U_); (first | exact QX.B TYok | exact QCd (h)); exact rfl) | refine SX.Box TYok (h := ?_) | refine SC ?_ | (refine W.condA (ht := fun hb => ?_) (hf := fun hb => ?_) <;> (try simp at hb) <;> (try (exfalso; omega))))
  exact Fin.ret ResL.auto
theorem rvalid_ok {lets : List Let} (hl : LIn lets) (e : Exp) (he : OkE e) (v : EnvV) (hv : v.Len) : ACalls Tryz.prog 26 [xV lets, aE e, vV v] (.pv (cB (askF lets e v))) := by
  have r1 := rrightE_ok e he
  have r2 := rtemp_ok e he
  have r3 := rfracs_ok v.vals hv.h2 hv.q1
  have r4 := rfracs_ok v.rates hv.h4 hv.q2
  have hlen := hl.len
  have hbody : ∀ y ∈ lets, ACalls Tryz.prog 48 [aE y.body] (.pv (cB (rightF 12 y.body))) ∧ ACalls Tryz.prog 49 [aE y.body] (.pv (cB (tempF y.body))) := fun y hy => ⟨rrightE_ok _ (hl.ok y hy), rtemp_ok _ (hl.ok y hy)⟩
  have hdef : askF lets e v = (((rightF 12 e && !tempF e) && decide (lets.length ≤ 20)) && (!(lets.any fun y => !statF y.body) && validF v)) := rfl
  rw [hdef]
  unfold validF
  obtain ⟨N, V, I, R⟩ := v
  simp only at r3 r4 ⊢
  generalize (V.any fun q => !q.right) = b3 at *
  generalize (R.any fun q => !q.right) = b4 at *
  generalize rightF 12 e = b1 at *
  generalize tempF e = b2 at *
  clear hdef hv he
  obtain ⟨op, k0, u, s, l⟩ := e
  by_cases hA : (b1 = true ∧ lets.length ≤ 20) ∧ b2 = false
  case neg =>
    have e : ((b1 && !b2) && decide (lets.length ≤ 20)) = false := by
      rw [← Bool.not_eq_true]; simp; intro q1 q2
      by_cases q3 : lets.length ≤ 20
      · exact absurd ⟨⟨q1, q3⟩, q2⟩ hA
      · omega
    rw [e, Bool.false_and]
    have hbad : (b1 = true ∧ (lets.length : Int) ≤ 20) ∧ b2 = false → False := fun q => hA ⟨⟨q.1.1, by omega⟩, q.2⟩
    refine ACalls.of_W (qs := [cB false]) [6] 71 Tryz.func26 (by kernel_rfl) rfl rfl rfl fun G => ?_
    refine W.initA (hw := ?_)
    repeat' (first | ((first | apply U_ | (apply Ug_; exact rfl; exact rfl) | (apply Ugq_; exact rfl; exact rfl)); (first | exact QX.B TYok | exact QX.Len TYok | exact QX.Idx TYok | exact QCd (r1) | exact QCd (r2)); exact rfl) | refine SX.Box TYok (h := ?_) | refine SC ?_ | (apply S_isnil TYok; exact rfl; exact rfl; exact rfl; exact Ev.auto; intro bn hnil) | (apply RG.gT; exact rfl; exact rfl; (first | assumption | decide)) | (apply RG.gF; exact rfl; exact rfl; (first | assumption | decide | (rw [ne_eq, Bool.not_eq_true]; assumption) | (rw [ne_eq, Bool.not_eq_false]; assumption)); exact rfl) | (refine W.condA (ht := fun hb => ?_) (hf := fun hb => ?_) <;> (try simp at hb) <;> (try (exfalso; first | exact hbad hb | omega))))
    all_goals first
      | exact Fin.ret ResL.auto
      | (exfalso; omega)
      | trace_state
  obtain ⟨⟨rfl, h20⟩, rfl⟩ := hA
  rw [decide_eq_true h20]
  refine ACalls.of_W (qs := [cB (((true && !false) && true) && (!(lets.any fun y => !statF y.body) && (((decide ((N.length : Int) = V.length) && decide ((I.length : Int) = R.length)) && !b3) && !b4)))]) [6] 71 Tryz.func26 (by kernel_rfl) rfl rfl rfl fun G => ?_
  refine W.initA (hw := ?_)
  repeat' (first | ((first | apply U_ | (apply Ug_; exact rfl; exact rfl) | (apply Ugq_; exact rfl; exact rfl)); (first | exact QX.B TYok | exact QX.Len TYok | exact QX.Idx TYok | exact QCd (r1) | exact QCd (r2)); exact rfl) | refine SX.Box TYok (h := ?_) | refine SC ?_ | (apply S_isnil TYok; exact rfl; exact rfl; exact rfl; exact Ev.auto; intro bn hnil) | (apply RG.gT; exact rfl; exact rfl; (first | assumption | decide)) | (apply RG.gF; exact rfl; exact rfl; (first | assumption | decide | (rw [ne_eq, Bool.not_eq_true]; assumption) | (rw [ne_eq, Bool.not_eq_false]; assumption)); exact rfl) | (refine W.condA (ht := fun hb => ?_) (hf := fun hb => ?_) <;> (try simp at hb) <;> (try (exfalso; omega))))
  all_goals try (exfalso; omega)
  apply W.loopP (σ := Nat) 71 [3, 5] (fun k => k ≤ lets.length ∧ (lets.take k).any (fun y => !statF y.body) = false) (fun k => [(7, vI k)]) (fun _ => [(3, ⟨34, 25, [[.str [], .str [], .int .i64 0, .int .i64 0, .int .i64 0, .int .i64 0, .int .i64 0, .int .i64 0, .int .i64 0, .int .i64 0, .sl (lets.map encL), .int .i64 0, .int .i64 0, .int .i64 0, .str [], .slnil, .int .i64 0, .slnil, .slnil, .int .i64 0, .slnil, .int .i64 0, .int .i64 0, .int .i64 0, .int .i64 0]]⟩), (5, ⟨29, 4, [[.sl (N.map encS), .sl (V.map encF), .sl (I.map encS), .sl (R.map encF)]]⟩)]) (fun k => lets.length - k) (0)
  case hp => repeat (first | exact Pick.nil | apply Pick.cons rfl)
  case h0 =>
    refine ⟨by simp, ?_⟩
    exact Le.auto
  case round =>
    rintro k ⟨h1, h2⟩
    apply W.norm (by repeat (first | exact App.nil | apply App.cons))
    by_cases hk : k < lets.length
    · obtain ⟨q1, q2⟩ := hbody _ (nth_mem hk)
      have hd : statF (nth lets k).body = (rightF 12 (nth lets k).body && !tempF (nth lets k).body) := rfl
      cases hc : statF (nth lets k).body with
      | false =>
        rw [hd] at hc
        rw [List.any_eq_true.2 ⟨_, nth_mem hk, by rw [hd, hc]; rfl⟩]
        generalize rightF 12 (nth lets k).body = c1 at *
        generalize tempF (nth lets k).body = c2 at *
        have hbad : c1 = true ∧ c2 = false → False := fun q => by rw [q.1, q.2] at hc; cases hc
        repeat' (first | ((first | apply U_ | (apply Ug_; exact rfl; exact rfl) | (apply Ugq_; exact rfl; exact rfl)); (first | exact QX.B TYok | exact QX.Len TYok | exact QX.Idx TYok | exact QCd (q1) | exact QCd (q2)); exact rfl) | refine SX.Box TYok (h := ?_) | refine SC ?_ | (apply S_isnil TYok; exact rfl; exact rfl; exact rfl; exact Ev.auto; intro bn hnil) | (apply RG.gT; exact rfl; exact rfl; (first | assumption | decide)) | (apply RG.gF; exact rfl; exact rfl; (first | assumption | decide | (rw [ne_eq, Bool.not_eq_true]; assumption) | (rw [ne_eq, Bool.not_eq_false]; assumption)); exact rfl) | (refine W.condA (ht := fun hb => ?_) (hf := fun hb => ?_) <;> (try simp at hb) <;> (try (exfalso; first | exact hbad hb | omega))))
        all_goals first
          | exact Fin.ret ResL.auto
          | (exfalso; omega)
          | trace_state
      | true =>
        have hc2 := hc
        rw [hd, Bool.and_eq_true, Bool.not_eq_true'] at hc2
        rw [hc2.1] at q1
        rw [hc2.2] at q2
        repeat' (first | ((first | apply U_ | (apply Ug_; exact rfl; exact rfl) | (apply Ugq_; exact rfl; exact rfl)); (first | exact QX.B TYok | exact QX.Len TYok | exact QX.Idx TYok | exact QCd (q1) | exact QCd (q2)); exact rfl) | refine SX.Box TYok (h := ?_) | refine SC ?_ | (apply S_isnil TYok; exact rfl; exact rfl; exact rfl; exact Ev.auto; intro bn hnil) | (apply RG.gT; exact rfl; exact rfl; (first | assumption | decide)) | (apply RG.gF; exact rfl; exact rfl; (first | assumption | decide | (rw [ne_eq, Bool.not_eq_true]; assumption) | (rw [ne_eq, Bool.not_eq_false]; assumption)); exact rfl) | (refine W.condA (ht := fun hb => ?_) (hf := fun hb => ?_) <;> (try simp at hb) <;> (try (exfalso; omega))))
        all_goals first
          | (refine ⟨k + 1, ⟨by omega, by rw [any_take hk, h2, hc]; rfl⟩, ?_, by (try simp only); omega⟩; exact Le.auto)
          | (exfalso; omega)
          | trace_state
    · obtain rfl : k = lets.length := by omega
      rw [List.take_length] at h2
      rw [h2]
      repeat' (first | ((first | apply U_ | (apply Ug_; exact rfl; exact rfl) | (apply Ugq_; exact rfl; exact rfl)); (first | exact QX.B TYok | exact QX.Len TYok | exact QX.Idx TYok | exact QCd (r3) | exact QCd (r4)); exact rfl) | refine SX.Box TYok (h := ?_) | refine SC ?_ | (apply S_isnil TYok; exact rfl; exact rfl; exact rfl; exact Ev.auto; intro bn hnil) | (apply RG.gT; exact rfl; exact rfl; (first | assumption | decide)) | (apply RG.gF; exact rfl; exact rfl; (first | assumption | decide | (rw [ne_eq, Bool.not_eq_true]; assumption) | (rw [ne_eq, Bool.not_eq_false]; assumption)); exact rfl) | (refine W.condA (ht := fun hb => ?_) (hf := fun hb => ?_) <;> (try simp at hb) <;> (try (exfalso; omega))))
      all_goals first
        | exact Fin.ret ResL.auto
        | trace_state
attribute [local irreducible] sgn mag gcdZ quoZ remZ fullZ fullE
theorem rnum_ok (n : Int) (h : i64B n) : ACalls Tryz.prog 51 [cI n] (.pv (zF (Rat.divInt n 1))) := by
  have n1 := qof_ok n 1 h (by unfold i64B; omega) (by omega)
  generalize Rat.divInt n 1 = r at *
  refine ACalls.of_M TYok (qs := [zF r]) [.cell 2 40] 11 Tryz.func51 (by kernel_rfl) rfl rfl rfl fun G => ?_
  refine W.initA (hw := ?_)
  repeat' (first | ((first | apply U_); (first | exact QX.B TYok | exact QX.Ext TYok | exact QCd (n1)); exact rfl) | refine SX.Alloc TYok (h := ?_) | refine SX.Store TYok (h := ?_) | refine SC ?_ | (refine W.condA (ht := fun hb => ?_) (hf := fun hb => ?_) <;> (try simp at hb) <;> (try (exfalso; omega))))
  all_goals exact FinM.ret ResM.auto
theorem rtruth_ok (b : Bool) : ACalls Tryz.prog 53 [cB b] (.pv (zF (one01 b))) := by
  have n1 := rnum_ok 1 (by unfold i64B; omega)
  have n0 := rnum_ok 0 (by unfold i64B; omega)
  rw [show Rat.divInt 1 1 = one01 true from (one01_eq true).symm] at n1
  rw [show Rat.divInt 0 1 = one01 false from (one01_eq false).symm] at n0
  cases b with
  | true =>
    generalize one01 true = r at *
    refine ACalls.of_M TYok (qs := [zF r]) [.cell 2 40] 6 Tryz.func53 (by kernel_rfl) rfl rfl rfl fun G => ?_
    refine W.initA (hw := ?_)
    repeat' (first | ((first | apply U_); (first | exact QX.B TYok | exact QCd (n1)); exact rfl) | refine SX.Alloc TYok (h := ?_) | refine SX.Store TYok (h := ?_) | refine SC ?_ | (refine W.condA (ht := fun hb => ?_) (hf := fun hb => ?_) <;> (try simp at hb) <;> (try (exfalso; omega))))
    all_goals exact FinM.ret ResM.auto
  | false =>
    generalize one01 false = r at *
    refine ACalls.of_M TYok (qs := [zF r]) [.cell 2 40] 6 Tryz.func53 (by kernel_rfl) rfl rfl rfl fun G => ?_
    refine W.initA (hw := ?_)
    repeat' (first | ((first | apply U_); (first | exact QX.B TYok | exact QCd (n0)); exact rfl) | refine SX.Alloc TYok (h := ?_) | refine SX.Store TYok (h := ?_) | refine SC ?_ | (refine W.condA (ht := fun hb => ?_) (hf := fun hb => ?_) <;> (try simp at hb) <;> (try (exfalso; omega))))
    all_goals exact FinM.ret ResM.auto
theorem rfind_ok (names : List Str) (vals : List Rat) (s : Str) (hl : names.length ≤ 9223372036854775807) (he : names.length = vals.length) : ACalls Tryz.prog 52 [slS names, slQ vals, cS s] (resP (lookF names vals s)) := by
  obtain ⟨x1, x2, x3, x4, hv⟩ := (lookF names vals s).v_agg
  have hm : s ∉ names → lookF names vals s = .err 14 := fun h => if_neg h
  have hh : ∀ k, k < names.length → s ∉ names.take k → s = nth names k → lookF names vals s = .ok (nth vals k) := fun k h1 h2 h3 => by
    have hin : s ∈ names := h3 ▸ nth_mem h1
    have e : names.idxOf s = k := by
      have e1 : names = names.take k ++ names.drop k := (List.take_append_drop k names).symm
      rw [e1, List.idxOf_append, if_neg h2, drop_nth h1, ← h3]
      simp; omega
    unfold lookF
    rw [if_pos hin, e]
  unfold resP
  rw [hv]
  refine ACalls.of_M TYok (qs := [.agg [.int .i64 x1, .sl (x2.map Lf.encI), .int .i64 x3, .sl (x4.map Lf.encI)], cI (lookF names vals s).e]) [.cell 6 40, .tmp 7] 26 Tryz.func52 (by kernel_rfl) rfl rfl rfl fun G => ?_
  refine W.initA (hw := ?_)
  repeat' (first | ((first | apply U_); (first | exact QX.B TYok | exact QX.Len TYok | exact QX.Idx TYok | exact QX.Build TYok); exact rfl) | refine SX.Alloc TYok (h := ?_) | refine SX.Store TYok (h := ?_) | refine SC ?_ | (apply S_isnil TYok; exact rfl; exact rfl; exact rfl; exact Ev.auto; intro bn hnil) | (refine W.condA (ht := fun hb => ?_) (hf := fun hb => ?_) <;> (try simp at hb) <;> (try (exfalso; omega))))
  apply W.loopP (σ := Nat) 26 [0, 1, 2, 6] (fun k => k ≤ names.length ∧ s ∉ names.take k) (fun k => [(8, vI k)]) (fun _ => [(6, ⟨40, 4, [[.int .i64 0, .slnil, .int .i64 0, .slnil]]⟩)]) (fun k => names.length - k) (0)
  case hp => repeat (first | exact Pick.nil | apply Pick.cons rfl)
  case h0 =>
    refine ⟨by simp, ?_⟩
    exact Le.auto
  case round =>
    rintro k ⟨h1, h2⟩
    apply W.norm (by repeat (first | exact App.nil | apply App.cons))
    by_cases hk : k < names.length
    · by_cases hn : s = nth names k
      · have e := hh k hk h2 hn
        rw [e] at hv ⊢
        have hv' : zF (nth vals k) = _ := hv
        rw [← hv]
        show W _ _ _ (Then _ (InBlock _ (Then _ (FinM _ _ [zF (nth vals k), cI 0])))) _
        repeat' (first | ((first | apply U_); (first | exact QX.B TYok | exact QX.Len TYok | exact QX.Idx TYok | exact QX.Build TYok); exact rfl) | refine SX.Alloc TYok (h := ?_) | refine SX.Store TYok (h := ?_) | refine SC ?_ | (apply S_isnil TYok; exact rfl; exact rfl; exact rfl; exact Ev.auto; intro bn hnil) | (refine W.condA (ht := fun hb => ?_) (hf := fun hb => ?_) <;> (try simp at hb) <;> (try (exfalso; omega))))
        all_goals first
          | exact FinM.ret ResM.auto
          | (exfalso; omega)
          | (exfalso; exact hb hn.symm)
          | trace_state
      · repeat' (first | ((first | apply U_); (first | exact QX.B TYok | exact QX.Len TYok | exact QX.Idx TYok | exact QX.Build TYok); exact rfl) | refine SX.Alloc TYok (h := ?_) | refine SX.Store TYok (h := ?_) | refine SC ?_ | (apply S_isnil TYok; exact rfl; exact rfl; exact rfl; exact Ev.auto; intro bn hnil) | (refine W.condA (ht := fun hb => ?_) (hf := fun hb => ?_) <;> (try simp at hb) <;> (try (exfalso; omega))))
        all_goals first
          | (refine ⟨k + 1, ⟨by omega, fun hm2 => ?_⟩, ?_, by (try simp only); omega⟩
             · rw [take_nth hk] at hm2
               rcases List.mem_append.1 hm2 with q | q
               · exact h2 q
               · exact hn (List.mem_singleton.1 q)
             · exact Le.auto)
          | (exfalso; omega)
          | (exfalso; exact hn hb.symm)
          | trace_state
    · obtain rfl : k = names.length := by omega
      rw [List.take_length] at h2
      have e := hm h2
      rw [e] at hv ⊢
      rw [← hv]
      show W _ _ _ (Then _ (InBlock _ (Then _ (FinM _ _ [zF0, cI 14])))) _
      repeat' (first | ((first | apply U_); (first | exact QX.B TYok | exact QX.Len TYok | exact QX.Idx TYok | exact QX.Build TYok); exact rfl) | refine SX.Alloc TYok (h := ?_) | refine SX.Store TYok (h := ?_) | refine SC ?_ | (apply S_isnil TYok; exact rfl; exact rfl; exact rfl; exact Ev.auto; intro bn hnil) | (refine W.condA (ht := fun hb => ?_) (hf := fun hb => ?_) <;> (try simp at hb) <;> (try (exfalso; omega))))
      all_goals first
        | exact FinM.ret (ResM.cell rfl rfl rfl rfl zeroSubF (ResM.tmp rfl rfl PSub.rfl' ResM.nil))
        | (exfalso; omega)
        | trace_state
end
end Go.Proofs.YtjedkgogjehigaaGreat
end
section
set_option linter.unusedVariables false
set_option linter.unusedSimpArgs false
set_option maxHeartbeats 8000000
set_option linter.unusedSectionVars false
namespace Go.Proofs.YtjedkgogjehigaaGreat
open Lf Go
attribute [local irreducible] PureOp EffOp Ev RG W Then InBlock Lf.Fin nth App InitE Pick SubE EvL EvD EvP EvR ResL Lf.Lex SubR SubBR EvC FinO FinM ResM ResD FinS val pw digs trimL
section
theorem qadd_all (a b : Rat) (ha : okF a) (hb : okF b) : ACalls Tryz.prog 77 [zF a, zF b] (resP (addR a b)) := by
  unfold addR; split
  · exact qadd_yes a b ha hb ‹_›
  · exact qadd_no a b ha hb ‹_›
theorem qsub_all (a b : Rat) (ha : okF a) (hb : okF b) : ACalls Tryz.prog 78 [zF a, zF b] (resP (subR a b)) := by
  unfold subR; split
  · exact qsub_yes a b ha hb ‹_›
  · exact qsub_no a b ha hb ‹_›
theorem qmul_all (a b : Rat) (ha : okF a) (hb : okF b) : ACalls Tryz.prog 79 [zF a, zF b] (resP (mulR a b)) := by
  unfold mulR; split
  · exact qmul_yes a b ha hb ‹_›
  · exact qmul_no a b ha hb ‹_›
theorem qdiv_all (a b : Rat) (ha : okF a) (hb : okF b) : ACalls Tryz.prog 80 [zF a, zF b] (resP (divR a b)) := by
  unfold divR; split
  · exact qdiv_zero a b ha hb ‹_›
  · split
    · exact qdiv_yes a b ha hb ‹_› ‹_›
    · exact qdiv_no a b ha hb ‹_› ‹_›
theorem cmpR_eq {p q : Rat} (h : cmpR p q = 0) : p = q := by
  rcases cmpR_cases p q with ⟨h1, _⟩ | ⟨_, h2⟩ | ⟨h1, _⟩
  · omega
  · exact h2
  · omega
attribute [local irreducible] sgn mag gcdZ quoZ remZ fullZ fullE
theorem two_call {op : Int} {f : Nat} {a b : Rat} {R : Rs} (ha : okF a) (hb : okF b) (hf : (op = 4 ∧ f = 77) ∨ (op = 5 ∧ f = 78) ∨ (op = 6 ∧ f = 79) ∨ (op = 7 ∧ f = 80)) (hc : ACalls Tryz.prog f [zF a, zF b] (resP R)) : ACalls Tryz.prog 54 [cI op, zF a, zF b] (resP R) := by
  have h1 := qcmp_ok a b ha hb
  obtain ⟨x1, x2, x3, x4, hv⟩ := R.v_agg
  unfold resP at hc ⊢
  rw [hv] at hc ⊢
  generalize R.e = e at *
  generalize cmpR a b = c at *
  rcases hf with ⟨rfl, rfl⟩ | ⟨rfl, rfl⟩ | ⟨rfl, rfl⟩ | ⟨rfl, rfl⟩
  all_goals (
    refine ACalls.of_M TYok (qs := [.agg [.int .i64 x1, .sl (x2.map Lf.encI), .int .i64 x3, .sl (x4.map Lf.encI)], cI e]) [.cell 6 40, .tmp 7] 61 Tryz.func54 (by kernel_rfl) rfl rfl rfl fun G => ?_
    refine W.initA (hw := ?_)
    repeat' (first | ((first | apply U_); (first | exact QX.B TYok | exact QX.Ext TYok | exact QCd (h1) | exact QCd (hc)); exact rfl) | refine SX.Alloc TYok (h := ?_) | refine SX.Store TYok (h := ?_) | refine SX.Box TYok (h := ?_) | refine SC ?_ | (apply S_isnil TYok; exact rfl; exact rfl; exact rfl; exact Ev.auto; intro bn hnil) | (refine W.condA (ht := fun hb => ?_) (hf := fun hb => ?_) <;> (try simp at hb) <;> (try (exfalso; omega))))
    all_goals exact FinM.ret ResM.auto)
theorem two_truth {op : Int} {a b : Rat} (ha : okF a) (hb : okF b) (hop : op = 10 ∨ op = 11) : ACalls Tryz.prog 54 [cI op, zF a, zF b] (.tup [zF (one01 (if op = 10 then decide (cmpR a b < 0) else decide (cmpR a b = 0))), cI 0]) := by
  have h1 := qcmp_ok a b ha hb
  rcases hop with rfl | rfl
  · rw [if_pos rfl]
    have t1 := rtruth_ok (decide (cmpR a b < 0))
    generalize cmpR a b = c at *
    generalize one01 (decide (c < 0)) = r at *
    refine ACalls.of_M TYok (qs := [zF r, cI 0]) [.cell 6 40, .tmp 7] 61 Tryz.func54 (by kernel_rfl) rfl rfl rfl fun G => ?_
    refine W.initA (hw := ?_)
    repeat' (first | ((first | apply U_); (first | exact QX.B TYok | exact QX.Ext TYok | exact QCd (h1) | exact QCd (t1)); exact rfl) | refine SX.Alloc TYok (h := ?_) | refine SX.Store TYok (h := ?_) | refine SX.Box TYok (h := ?_) | refine SC ?_ | (apply S_isnil TYok; exact rfl; exact rfl; exact rfl; exact Ev.auto; intro bn hnil) | (refine W.condA (ht := fun hb => ?_) (hf := fun hb => ?_) <;> (try simp at hb) <;> (try (exfalso; omega))))
    all_goals exact FinM.ret ResM.auto
  · rw [if_neg (by omega)]
    have t1 := rtruth_ok (decide (cmpR a b = 0))
    generalize cmpR a b = c at *
    generalize one01 (decide (c = 0)) = r at *
    refine ACalls.of_M TYok (qs := [zF r, cI 0]) [.cell 6 40, .tmp 7] 61 Tryz.func54 (by kernel_rfl) rfl rfl rfl fun G => ?_
    refine W.initA (hw := ?_)
    repeat' (first | ((first | apply U_); (first | exact QX.B TYok | exact QX.Ext TYok | exact QCd (h1) | exact QCd (t1)); exact rfl) | refine SX.Alloc TYok (h := ?_) | refine SX.Store TYok (h := ?_) | refine SX.Box TYok (h := ?_) | refine SC ?_ | (apply S_isnil TYok; exact rfl; exact rfl; exact rfl; exact Ev.auto; intro bn hnil) | (refine W.condA (ht := fun hb => ?_) (hf := fun hb => ?_) <;> (try simp at hb) <;> (try (exfalso; omega))))
    all_goals exact FinM.ret ResM.auto
theorem two_pick {op : Int} {a b r : Rat} (ha : okF a) (hb : okF b) (hop : (op = 8 ∧ r = if cmpR a b ≤ 0 then a else b) ∨ (op = 9 ∧ r = if 0 ≤ cmpR a b then a else b)) : ACalls Tryz.prog 54 [cI op, zF a, zF b] (.tup [zF r, cI 0]) := by
  have h1 := qcmp_ok a b ha hb
  generalize cmpR a b = c at *
  rcases hop with ⟨rfl, hr⟩ | ⟨rfl, hr⟩
  · by_cases hc : c ≤ 0
    · rw [if_pos hc] at hr
      subst hr
      refine ACalls.of_M TYok (qs := [zF r, cI 0]) [.cell 6 40, .tmp 7] 61 Tryz.func54 (by kernel_rfl) rfl rfl rfl fun G => ?_
      refine W.initA (hw := ?_)
      repeat' (first | ((first | apply U_); (first | exact QX.B TYok | exact QX.Ext TYok | exact QCd (h1)); exact rfl) | refine SX.Alloc TYok (h := ?_) | refine SX.Store TYok (h := ?_) | refine SX.Box TYok (h := ?_) | refine SC ?_ | (apply S_isnil TYok; exact rfl; exact rfl; exact rfl; exact Ev.auto; intro bn hnil) | (refine W.condA (ht := fun hb => ?_) (hf := fun hb => ?_) <;> (try simp at hb) <;> (try (exfalso; omega))))
      all_goals first
        | exact FinM.ret ResM.auto
        | (exfalso; omega)
    · rw [if_neg hc] at hr
      subst hr
      refine ACalls.of_M TYok (qs := [zF r, cI 0]) [.cell 6 40, .tmp 7] 61 Tryz.func54 (by kernel_rfl) rfl rfl rfl fun G => ?_
      refine W.initA (hw := ?_)
      repeat' (first | ((first | apply U_); (first | exact QX.B TYok | exact QX.Ext TYok | exact QCd (h1)); exact rfl) | refine SX.Alloc TYok (h := ?_) | refine SX.Store TYok (h := ?_) | refine SX.Box TYok (h := ?_) | refine SC ?_ | (apply S_isnil TYok; exact rfl; exact rfl; exact rfl; exact Ev.auto; intro bn hnil) | (refine W.condA (ht := fun hb => ?_) (hf := fun hb => ?_) <;> (try simp at hb) <;> (try (exfalso; omega))))
      all_goals first
        | exact FinM.ret ResM.auto
        | (exfalso; omega)
  · by_cases hc : 0 ≤ c
    · rw [if_pos hc] at hr
      subst hr
      refine ACalls.of_M TYok (qs := [zF r, cI 0]) [.cell 6 40, .tmp 7] 61 Tryz.func54 (by kernel_rfl) rfl rfl rfl fun G => ?_
      refine W.initA (hw := ?_)
      repeat' (first | ((first | apply U_); (first | exact QX.B TYok | exact QX.Ext TYok | exact QCd (h1)); exact rfl) | refine SX.Alloc TYok (h := ?_) | refine SX.Store TYok (h := ?_) | refine SX.Box TYok (h := ?_) | refine SC ?_ | (apply S_isnil TYok; exact rfl; exact rfl; exact rfl; exact Ev.auto; intro bn hnil) | (refine W.condA (ht := fun hb => ?_) (hf := fun hb => ?_) <;> (try simp at hb) <;> (try (exfalso; omega))))
      all_goals first
        | exact FinM.ret ResM.auto
        | (exfalso; omega)
    · rw [if_neg hc] at hr
      subst hr
      refine ACalls.of_M TYok (qs := [zF r, cI 0]) [.cell 6 40, .tmp 7] 61 Tryz.func54 (by kernel_rfl) rfl rfl rfl fun G => ?_
      refine W.initA (hw := ?_)
      repeat' (first | ((first | apply U_); (first | exact QX.B TYok | exact QX.Ext TYok | exact QCd (h1)); exact rfl) | refine SX.Alloc TYok (h := ?_) | refine SX.Store TYok (h := ?_) | refine SX.Box TYok (h := ?_) | refine SC ?_ | (apply S_isnil TYok; exact rfl; exact rfl; exact rfl; exact Ev.auto; intro bn hnil) | (refine W.condA (ht := fun hb => ?_) (hf := fun hb => ?_) <;> (try simp at hb) <;> (try (exfalso; omega))))
      all_goals first
        | exact FinM.ret ResM.auto
        | (exfalso; omega)
theorem rtwo_ok (op : Int) {a b : Rat} (ha : okF a) (hb : okF b) (hop : 4 ≤ op ∧ op ≤ 11) : ACalls Tryz.prog 54 [cI op, zF a, zF b] (resP (binF op a b)) := by
  by_cases h4 : op = 4
  · subst h4; exact two_call ha hb (.inl ⟨rfl, rfl⟩) (qadd_all a b ha hb)
  by_cases h5 : op = 5
  · subst h5; exact two_call ha hb (.inr (.inl ⟨rfl, rfl⟩)) (qsub_all a b ha hb)
  by_cases h6 : op = 6
  · subst h6; exact two_call ha hb (.inr (.inr (.inl ⟨rfl, rfl⟩))) (qmul_all a b ha hb)
  by_cases h7 : op = 7
  · subst h7; exact two_call ha hb (.inr (.inr (.inr ⟨rfl, rfl⟩))) (qdiv_all a b ha hb)
  by_cases h8 : op = 8
  · subst h8; rw [bin8]; exact two_pick ha hb (.inl ⟨rfl, rfl⟩)
  by_cases h9 : op = 9
  · subst h9
    rw [bin9]
    refine two_pick ha hb (.inr ⟨rfl, ?_⟩)
    by_cases h0 : cmpR a b = 0
    · rw [cmpR_eq h0]; simp
    · by_cases hc : cmpR a b ≤ 0
      · rw [if_pos hc, if_neg (by omega)]
      · rw [if_neg hc, if_pos (by omega)]
  have ht := two_truth (op := op) ha hb (by omega)
  by_cases h10 : op = 10
  · subst h10; rw [bin10]; exact ht
  · obtain rfl : op = 11 := by omega
    rw [bin11]; exact ht
variable {lets : List Let} {en : EnvQ} {op k u : Int} {s : Str} {l : List Exp} {n : Nat}
abbrev eV (en : EnvQ) : PV := .agg [.sl (en.names.map encS), .sl (en.vals.map encQ), .sl (en.iss.map encS), .sl (en.rates.map encQ)]
abbrev rRec (op k u : Int) (s : Str) (l : List Exp) : PV := .agg [.int .i64 op, .int .i64 k, .int .i64 u, .str s, .sl (l.map encX)]
abbrev RC (L : List Let) (en : EnvQ) (a : PV) (R : Rs) : Prop := ACalls Tryz.prog 27 [.one (.sl (L.map encL)), a, eV en] (resP R)
variable {L : List Let}
theorem r_num (r : Rat) (hu : u = 2 → ACalls Tryz.prog 34 [cI k, cI 1000] (.tup [zF r, cI 0])) (hn : u ≠ 2 → ACalls Tryz.prog 51 [cI k] (.pv (zF r))) : RC L en (rRec 0 k u s l) (.ok r) := by
  show ACalls Tryz.prog 27 _ (.tup [zF r, cI 0])
  by_cases h : u = 2
  · have c1 := hu h
    refine ACalls.of_M TYok (qs := [zF r, cI 0]) [.cell 6 40, .tmp 7] 177 Tryz.func27 (by kernel_rfl) rfl rfl rfl fun G => ?_
    refine W.initA (hw := ?_)
    repeat' (first | ((first | apply U_ | (apply Ug_; exact rfl; exact rfl) | (apply Ugq_; exact rfl; exact rfl) | apply Lex.u | (apply Lex.g; exact rfl; exact rfl) | (apply Lex.gq; exact rfl; exact rfl)); (first | exact QX.B TYok | exact QX.Len TYok | exact QX.Idx TYok | exact QX.Ext TYok | exact QX.Build TYok | exact QX.Cut TYok | exact QCd (c1)); exact rfl) | refine SX.Alloc TYok (h := ?_) | refine SX.Store TYok (h := ?_) | refine SX.Box TYok (h := ?_) | refine SC ?_ | (apply S_isnil TYok; exact rfl; exact rfl; exact rfl; exact Ev.auto; intro bn hnil) | (apply RG.gT; exact rfl; exact rfl; (first | assumption | decide)) | (apply RG.gF; exact rfl; exact rfl; (first | assumption | decide | (rw [ne_eq, Bool.not_eq_true]; assumption) | (rw [ne_eq, Bool.not_eq_false]; assumption)); exact rfl) | apply LexS.nil | (apply LexS.f; exact rfl; (first | (apply FreshV.alloc TYok; exact rfl; exact rfl; exact rfl; exact rfl) | (apply FreshV.lit TYok; (repeat (first | exact EvR.nil | apply EvR.cons Ev.auto)); exact rfl; exact rfl; exact rfl; exact rfl; exact rfl; exact rfl; exact rfl; exact rfl; exact rfl) | (apply FreshV.box; exact Ev.auto; exact rfl; exact rfl; exact rfl)); exact rfl; exact rfl; exact rfl) | (apply LexS.s; exact rfl; exact rfl; (apply StoreV.mk TYok; exact Ev.auto; exact Ev.auto; exact rfl; exact rfl; exact rfl; exact rfl; exact rfl)) | ((first | apply LexS.u | (apply LexS.g; exact rfl; exact rfl) | (apply LexS.gq; exact rfl; exact rfl)); (repeat (first | (apply NB.cons; exact rfl) | exact NB.nil rfl)); (first | exact QX.B TYok | exact QX.Len TYok | exact QX.Idx TYok | exact QX.Ext TYok | exact QX.Build TYok | exact QX.Cut TYok | exact QCd (c1)); exact rfl; exact rfl; exact rfl) | (apply W.draw2 (id := 10) [0, 0, 3, 7, 15, 0, 32, 127] [[0], [8], [37, 38], [39], [40], [4], [42], [41, 43]] 8 [(37, 1), (38, 256), (39, 412316860416), (40, 549755813888), (41, 1099511627776), (42, 16), (43, 4398046511104), (44, 10995116277760)] mixed (by kernel_rfl) rfl rfl) | (apply W.draw2 (id := 11) [0, 0, 3, 0, 0, 24, 56, 120, 0, 511, 1023, 1023, 4095, 8191] [[0], [8], [45, 46], [0], [8], [48, 49], [50], [51], [5], [47, 52, 53], [54], [54]] 12 [(45, 1), (46, 256), (47, 105553116266496), (48, 1), (49, 256), (50, 844424930131968), (51, 1125899906842624), (52, 2251799813685248), (53, 32), (54, 13651536370466816), (55, 18014398509481984), (56, 18014398509481984)] mixed (by kernel_rfl) rfl rfl) | (apply W.draw2 (id := 26) [0, 0, 2, 6, 14, 0, 63, 127, 127, 511, 1023] [[0], [4], [109], [110], [111], [5], [108, 112, 113], [114], [114]] 9 [(108, 1), (109, 16), (110, 649037107316853453566312041152512), (111, 1298074214633706907132624082305024), (112, 2596148429267413814265248164610048), (113, 32), (114, 15901409129262909612374645008236544), (115, 20769187434139310514121985316880384), (116, 20769187434139310514121985316880384)] mixed (by kernel_rfl) rfl rfl) | (apply W.draw2 (id := 27) [0, 0, 2, 6, 14, 0, 63, 127, 127, 511, 1023] [[0], [4], [118], [119], [120], [5], [117, 121, 122], [123], [123]] 9 [(117, 1), (118, 16), (119, 332306998946228968225951765070086144), (120, 664613997892457936451903530140172288), (121, 1329227995784915872903807060280344576), (122, 32), (123, 8141521474182609721535818244217110528), (124, 10633823966279326983230456482242756608), (125, 10633823966279326983230456482242756608)] mixed (by kernel_rfl) rfl rfl) | (refine W.drawS (id := 17) [0, 0, 2, 6, 14, 0, 63, 127, 255, 255, 0, 1535, 4095] [[0], [4], [82], [83], [84], [5], [81, 85, 86], [87], [80], [80], [], [9, 88], [89]] [(11, (9, ?_)), (10, (9, ?_))] [(11, 9), (10, 9)] mixed (by kernel_rfl) rfl ?_; rotate_left 2) | (refine W.drawS (id := 30) [0, 0, 2, 6, 14, 0, 63, 127, 255, 255, 0, 1535, 4095] [[0], [4], [145], [146], [147], [5], [144, 148, 149], [150], [143], [143], [], [12, 151], [152]] [(11, (12, ?_)), (10, (12, ?_))] [(11, 12), (10, 12)] mixed (by kernel_rfl) rfl ?_; rotate_left 2) | (refine W.condA (ht := fun hb => ?_) (hf := fun hb => ?_) <;> (try simp at hb) <;> (try (exfalso; omega))))
    all_goals first
      | exact FinM.ret ResM.auto
      | (exfalso; omega)
  · have c1 := hn h
    refine ACalls.of_M TYok (qs := [zF r, cI 0]) [.cell 6 40, .tmp 7] 177 Tryz.func27 (by kernel_rfl) rfl rfl rfl fun G => ?_
    refine W.initA (hw := ?_)
    repeat' (first | ((first | apply U_ | (apply Ug_; exact rfl; exact rfl) | (apply Ugq_; exact rfl; exact rfl) | apply Lex.u | (apply Lex.g; exact rfl; exact rfl) | (apply Lex.gq; exact rfl; exact rfl)); (first | exact QX.B TYok | exact QX.Len TYok | exact QX.Idx TYok | exact QX.Ext TYok | exact QX.Build TYok | exact QX.Cut TYok | exact QCd (c1)); exact rfl) | refine SX.Alloc TYok (h := ?_) | refine SX.Store TYok (h := ?_) | refine SX.Box TYok (h := ?_) | refine SC ?_ | (apply S_isnil TYok; exact rfl; exact rfl; exact rfl; exact Ev.auto; intro bn hnil) | (apply RG.gT; exact rfl; exact rfl; (first | assumption | decide)) | (apply RG.gF; exact rfl; exact rfl; (first | assumption | decide | (rw [ne_eq, Bool.not_eq_true]; assumption) | (rw [ne_eq, Bool.not_eq_false]; assumption)); exact rfl) | apply LexS.nil | (apply LexS.f; exact rfl; (first | (apply FreshV.alloc TYok; exact rfl; exact rfl; exact rfl; exact rfl) | (apply FreshV.lit TYok; (repeat (first | exact EvR.nil | apply EvR.cons Ev.auto)); exact rfl; exact rfl; exact rfl; exact rfl; exact rfl; exact rfl; exact rfl; exact rfl; exact rfl) | (apply FreshV.box; exact Ev.auto; exact rfl; exact rfl; exact rfl)); exact rfl; exact rfl; exact rfl) | (apply LexS.s; exact rfl; exact rfl; (apply StoreV.mk TYok; exact Ev.auto; exact Ev.auto; exact rfl; exact rfl; exact rfl; exact rfl; exact rfl)) | ((first | apply LexS.u | (apply LexS.g; exact rfl; exact rfl) | (apply LexS.gq; exact rfl; exact rfl)); (repeat (first | (apply NB.cons; exact rfl) | exact NB.nil rfl)); (first | exact QX.B TYok | exact QX.Len TYok | exact QX.Idx TYok | exact QX.Ext TYok | exact QX.Build TYok | exact QX.Cut TYok | exact QCd (c1)); exact rfl; exact rfl; exact rfl) | (apply W.draw2 (id := 10) [0, 0, 3, 7, 15, 0, 32, 127] [[0], [8], [37, 38], [39], [40], [4], [42], [41, 43]] 8 [(37, 1), (38, 256), (39, 412316860416), (40, 549755813888), (41, 1099511627776), (42, 16), (43, 4398046511104), (44, 10995116277760)] mixed (by kernel_rfl) rfl rfl) | (apply W.draw2 (id := 11) [0, 0, 3, 0, 0, 24, 56, 120, 0, 511, 1023, 1023, 4095, 8191] [[0], [8], [45, 46], [0], [8], [48, 49], [50], [51], [5], [47, 52, 53], [54], [54]] 12 [(45, 1), (46, 256), (47, 105553116266496), (48, 1), (49, 256), (50, 844424930131968), (51, 1125899906842624), (52, 2251799813685248), (53, 32), (54, 13651536370466816), (55, 18014398509481984), (56, 18014398509481984)] mixed (by kernel_rfl) rfl rfl) | (apply W.draw2 (id := 26) [0, 0, 2, 6, 14, 0, 63, 127, 127, 511, 1023] [[0], [4], [109], [110], [111], [5], [108, 112, 113], [114], [114]] 9 [(108, 1), (109, 16), (110, 649037107316853453566312041152512), (111, 1298074214633706907132624082305024), (112, 2596148429267413814265248164610048), (113, 32), (114, 15901409129262909612374645008236544), (115, 20769187434139310514121985316880384), (116, 20769187434139310514121985316880384)] mixed (by kernel_rfl) rfl rfl) | (apply W.draw2 (id := 27) [0, 0, 2, 6, 14, 0, 63, 127, 127, 511, 1023] [[0], [4], [118], [119], [120], [5], [117, 121, 122], [123], [123]] 9 [(117, 1), (118, 16), (119, 332306998946228968225951765070086144), (120, 664613997892457936451903530140172288), (121, 1329227995784915872903807060280344576), (122, 32), (123, 8141521474182609721535818244217110528), (124, 10633823966279326983230456482242756608), (125, 10633823966279326983230456482242756608)] mixed (by kernel_rfl) rfl rfl) | (refine W.drawS (id := 17) [0, 0, 2, 6, 14, 0, 63, 127, 255, 255, 0, 1535, 4095] [[0], [4], [82], [83], [84], [5], [81, 85, 86], [87], [80], [80], [], [9, 88], [89]] [(11, (9, ?_)), (10, (9, ?_))] [(11, 9), (10, 9)] mixed (by kernel_rfl) rfl ?_; rotate_left 2) | (refine W.drawS (id := 30) [0, 0, 2, 6, 14, 0, 63, 127, 255, 255, 0, 1535, 4095] [[0], [4], [145], [146], [147], [5], [144, 148, 149], [150], [143], [143], [], [12, 151], [152]] [(11, (12, ?_)), (10, (12, ?_))] [(11, 12), (10, 12)] mixed (by kernel_rfl) rfl ?_; rotate_left 2) | (refine W.condA (ht := fun hb => ?_) (hf := fun hb => ?_) <;> (try simp at hb) <;> (try (exfalso; omega))))
    all_goals first
      | exact FinM.ret ResM.auto
      | (exfalso; omega)
theorem r_look (R : Rs) (hop : (op = 2 ∧ R = lookF en.names en.vals s) ∨ (op = 3 ∧ R = lookF en.iss en.rates s)) (he : en.Ok) : RC L en (rRec op k u s l) R := by
  have h1 := rfind_ok en.names en.vals s he.b1 he.l1
  have h2 := rfind_ok en.iss en.rates s he.b2 he.l2
  obtain ⟨x1, x2, x3, x4, hv⟩ := R.v_agg
  show ACalls Tryz.prog 27 _ (.tup [R.v, cI R.e])
  rcases hop with ⟨rfl, hR⟩ | ⟨rfl, hR⟩
  · rw [← hR] at h1
    unfold resP at h1
    rw [hv] at h1 ⊢
    clear h2 hR
    generalize R.e = e at *
    refine ACalls.of_M TYok (qs := [.agg [.int .i64 x1, .sl (x2.map Lf.encI), .int .i64 x3, .sl (x4.map Lf.encI)], cI e]) [.cell 6 40, .tmp 7] 177 Tryz.func27 (by kernel_rfl) rfl rfl rfl fun G => ?_
    refine W.initA (hw := ?_)
    repeat' (first | ((first | apply U_ | (apply Ug_; exact rfl; exact rfl) | (apply Ugq_; exact rfl; exact rfl) | apply Lex.u | (apply Lex.g; exact rfl; exact rfl) | (apply Lex.gq; exact rfl; exact rfl)); (first | exact QX.B TYok | exact QX.Len TYok | exact QX.Idx TYok | exact QX.Ext TYok | exact QX.Build TYok | exact QX.Cut TYok | exact QCd (h1)); exact rfl) | refine SX.Alloc TYok (h := ?_) | refine SX.Store TYok (h := ?_) | refine SX.Box TYok (h := ?_) | refine SC ?_ | (apply S_isnil TYok; exact rfl; exact rfl; exact rfl; exact Ev.auto; intro bn hnil) | (apply RG.gT; exact rfl; exact rfl; (first | assumption | decide)) | (apply RG.gF; exact rfl; exact rfl; (first | assumption | decide | (rw [ne_eq, Bool.not_eq_true]; assumption) | (rw [ne_eq, Bool.not_eq_false]; assumption)); exact rfl) | apply LexS.nil | (apply LexS.f; exact rfl; (first | (apply FreshV.alloc TYok; exact rfl; exact rfl; exact rfl; exact rfl) | (apply FreshV.lit TYok; (repeat (first | exact EvR.nil | apply EvR.cons Ev.auto)); exact rfl; exact rfl; exact rfl; exact rfl; exact rfl; exact rfl; exact rfl; exact rfl; exact rfl) | (apply FreshV.box; exact Ev.auto; exact rfl; exact rfl; exact rfl)); exact rfl; exact rfl; exact rfl) | (apply LexS.s; exact rfl; exact rfl; (apply StoreV.mk TYok; exact Ev.auto; exact Ev.auto; exact rfl; exact rfl; exact rfl; exact rfl; exact rfl)) | ((first | apply LexS.u | (apply LexS.g; exact rfl; exact rfl) | (apply LexS.gq; exact rfl; exact rfl)); (repeat (first | (apply NB.cons; exact rfl) | exact NB.nil rfl)); (first | exact QX.B TYok | exact QX.Len TYok | exact QX.Idx TYok | exact QX.Ext TYok | exact QX.Build TYok | exact QX.Cut TYok | exact QCd (h1)); exact rfl; exact rfl; exact rfl) | (apply W.draw2 (id := 10) [0, 0, 3, 7, 15, 0, 32, 127] [[0], [8], [37, 38], [39], [40], [4], [42], [41, 43]] 8 [(37, 1), (38, 256), (39, 412316860416), (40, 549755813888), (41, 1099511627776), (42, 16), (43, 4398046511104), (44, 10995116277760)] mixed (by kernel_rfl) rfl rfl) | (apply W.draw2 (id := 11) [0, 0, 3, 0, 0, 24, 56, 120, 0, 511, 1023, 1023, 4095, 8191] [[0], [8], [45, 46], [0], [8], [48, 49], [50], [51], [5], [47, 52, 53], [54], [54]] 12 [(45, 1), (46, 256), (47, 105553116266496), (48, 1), (49, 256), (50, 844424930131968), (51, 1125899906842624), (52, 2251799813685248), (53, 32), (54, 13651536370466816), (55, 18014398509481984), (56, 18014398509481984)] mixed (by kernel_rfl) rfl rfl) | (apply W.draw2 (id := 26) [0, 0, 2, 6, 14, 0, 63, 127, 127, 511, 1023] [[0], [4], [109], [110], [111], [5], [108, 112, 113], [114], [114]] 9 [(108, 1), (109, 16), (110, 649037107316853453566312041152512), (111, 1298074214633706907132624082305024), (112, 2596148429267413814265248164610048), (113, 32), (114, 15901409129262909612374645008236544), (115, 20769187434139310514121985316880384), (116, 20769187434139310514121985316880384)] mixed (by kernel_rfl) rfl rfl) | (apply W.draw2 (id := 27) [0, 0, 2, 6, 14, 0, 63, 127, 127, 511, 1023] [[0], [4], [118], [119], [120], [5], [117, 121, 122], [123], [123]] 9 [(117, 1), (118, 16), (119, 332306998946228968225951765070086144), (120, 664613997892457936451903530140172288), (121, 1329227995784915872903807060280344576), (122, 32), (123, 8141521474182609721535818244217110528), (124, 10633823966279326983230456482242756608), (125, 10633823966279326983230456482242756608)] mixed (by kernel_rfl) rfl rfl) | (refine W.drawS (id := 17) [0, 0, 2, 6, 14, 0, 63, 127, 255, 255, 0, 1535, 4095] [[0], [4], [82], [83], [84], [5], [81, 85, 86], [87], [80], [80], [], [9, 88], [89]] [(11, (9, ?_)), (10, (9, ?_))] [(11, 9), (10, 9)] mixed (by kernel_rfl) rfl ?_; rotate_left 2) | (refine W.drawS (id := 30) [0, 0, 2, 6, 14, 0, 63, 127, 255, 255, 0, 1535, 4095] [[0], [4], [145], [146], [147], [5], [144, 148, 149], [150], [143], [143], [], [12, 151], [152]] [(11, (12, ?_)), (10, (12, ?_))] [(11, 12), (10, 12)] mixed (by kernel_rfl) rfl ?_; rotate_left 2) | (refine W.condA (ht := fun hb => ?_) (hf := fun hb => ?_) <;> (try simp at hb) <;> (try (exfalso; omega))))
    all_goals exact FinM.ret ResM.auto
  · rw [← hR] at h2
    unfold resP at h2
    rw [hv] at h2 ⊢
    clear h1 hR
    generalize R.e = e at *
    refine ACalls.of_M TYok (qs := [.agg [.int .i64 x1, .sl (x2.map Lf.encI), .int .i64 x3, .sl (x4.map Lf.encI)], cI e]) [.cell 6 40, .tmp 7] 177 Tryz.func27 (by kernel_rfl) rfl rfl rfl fun G => ?_
    refine W.initA (hw := ?_)
    repeat' (first | ((first | apply U_ | (apply Ug_; exact rfl; exact rfl) | (apply Ugq_; exact rfl; exact rfl) | apply Lex.u | (apply Lex.g; exact rfl; exact rfl) | (apply Lex.gq; exact rfl; exact rfl)); (first | exact QX.B TYok | exact QX.Len TYok | exact QX.Idx TYok | exact QX.Ext TYok | exact QX.Build TYok | exact QX.Cut TYok | exact QCd (h2)); exact rfl) | refine SX.Alloc TYok (h := ?_) | refine SX.Store TYok (h := ?_) | refine SX.Box TYok (h := ?_) | refine SC ?_ | (apply S_isnil TYok; exact rfl; exact rfl; exact rfl; exact Ev.auto; intro bn hnil) | (apply RG.gT; exact rfl; exact rfl; (first | assumption | decide)) | (apply RG.gF; exact rfl; exact rfl; (first | assumption | decide | (rw [ne_eq, Bool.not_eq_true]; assumption) | (rw [ne_eq, Bool.not_eq_false]; assumption)); exact rfl) | apply LexS.nil | (apply LexS.f; exact rfl; (first | (apply FreshV.alloc TYok; exact rfl; exact rfl; exact rfl; exact rfl) | (apply FreshV.lit TYok; (repeat (first | exact EvR.nil | apply EvR.cons Ev.auto)); exact rfl; exact rfl; exact rfl; exact rfl; exact rfl; exact rfl; exact rfl; exact rfl; exact rfl) | (apply FreshV.box; exact Ev.auto; exact rfl; exact rfl; exact rfl)); exact rfl; exact rfl; exact rfl) | (apply LexS.s; exact rfl; exact rfl; (apply StoreV.mk TYok; exact Ev.auto; exact Ev.auto; exact rfl; exact rfl; exact rfl; exact rfl; exact rfl)) | ((first | apply LexS.u | (apply LexS.g; exact rfl; exact rfl) | (apply LexS.gq; exact rfl; exact rfl)); (repeat (first | (apply NB.cons; exact rfl) | exact NB.nil rfl)); (first | exact QX.B TYok | exact QX.Len TYok | exact QX.Idx TYok | exact QX.Ext TYok | exact QX.Build TYok | exact QX.Cut TYok | exact QCd (h2)); exact rfl; exact rfl; exact rfl) | (apply W.draw2 (id := 10) [0, 0, 3, 7, 15, 0, 32, 127] [[0], [8], [37, 38], [39], [40], [4], [42], [41, 43]] 8 [(37, 1), (38, 256), (39, 412316860416), (40, 549755813888), (41, 1099511627776), (42, 16), (43, 4398046511104), (44, 10995116277760)] mixed (by kernel_rfl) rfl rfl) | (apply W.draw2 (id := 11) [0, 0, 3, 0, 0, 24, 56, 120, 0, 511, 1023, 1023, 4095, 8191] [[0], [8], [45, 46], [0], [8], [48, 49], [50], [51], [5], [47, 52, 53], [54], [54]] 12 [(45, 1), (46, 256), (47, 105553116266496), (48, 1), (49, 256), (50, 844424930131968), (51, 1125899906842624), (52, 2251799813685248), (53, 32), (54, 13651536370466816), (55, 18014398509481984), (56, 18014398509481984)] mixed (by kernel_rfl) rfl rfl) | (apply W.draw2 (id := 26) [0, 0, 2, 6, 14, 0, 63, 127, 127, 511, 1023] [[0], [4], [109], [110], [111], [5], [108, 112, 113], [114], [114]] 9 [(108, 1), (109, 16), (110, 649037107316853453566312041152512), (111, 1298074214633706907132624082305024), (112, 2596148429267413814265248164610048), (113, 32), (114, 15901409129262909612374645008236544), (115, 20769187434139310514121985316880384), (116, 20769187434139310514121985316880384)] mixed (by kernel_rfl) rfl rfl) | (apply W.draw2 (id := 27) [0, 0, 2, 6, 14, 0, 63, 127, 127, 511, 1023] [[0], [4], [118], [119], [120], [5], [117, 121, 122], [123], [123]] 9 [(117, 1), (118, 16), (119, 332306998946228968225951765070086144), (120, 664613997892457936451903530140172288), (121, 1329227995784915872903807060280344576), (122, 32), (123, 8141521474182609721535818244217110528), (124, 10633823966279326983230456482242756608), (125, 10633823966279326983230456482242756608)] mixed (by kernel_rfl) rfl rfl) | (refine W.drawS (id := 17) [0, 0, 2, 6, 14, 0, 63, 127, 255, 255, 0, 1535, 4095] [[0], [4], [82], [83], [84], [5], [81, 85, 86], [87], [80], [80], [], [9, 88], [89]] [(11, (9, ?_)), (10, (9, ?_))] [(11, 9), (10, 9)] mixed (by kernel_rfl) rfl ?_; rotate_left 2) | (refine W.drawS (id := 30) [0, 0, 2, 6, 14, 0, 63, 127, 255, 255, 0, 1535, 4095] [[0], [4], [145], [146], [147], [5], [144, 148, 149], [150], [143], [143], [], [12, 151], [152]] [(11, (12, ?_)), (10, (12, ?_))] [(11, 12), (10, 12)] mixed (by kernel_rfl) rfl ?_; rotate_left 2) | (refine W.condA (ht := fun hb => ?_) (hf := fun hb => ?_) <;> (try simp at hb) <;> (try (exfalso; omega))))
    all_goals exact FinM.ret ResM.auto
theorem r_name (hL : L.length ≤ 20) (Rk : Nat → Rs) (R : Rs) (hc : ∀ i, i < L.length → ACalls Tryz.prog 27 [.one (.sl (List.take i (L.map encL))), aE (nth L i).body, eV en] (resP (Rk i)))
    (hh : ∀ i, i < L.length → (L.take i).any (nameEq s) = false → (nth L i).name = s → Rk i = R) (hm : L.any (nameEq s) = false → R = .err 14) : RC L en (rRec 1 k u s l) R := by
  obtain ⟨x1, x2, x3, x4, hv⟩ := R.v_agg
  have hm2 : L.any (nameEq s) = false → [x1, x3] = [0, 0] ∧ x2 = [] ∧ x4 = [] ∧ R.e = 14 := fun h => by
    have e := hm h
    rw [e] at hv ⊢
    have hv2 : zF0 = _ := hv
    injection hv2 with hv2
    simp only [List.cons.injEq, Cell.int.injEq, Cell.sl.injEq, true_and, and_true] at hv2
    obtain ⟨q1, q2, q3, q4⟩ := hv2
    exact ⟨by rw [← q1, ← q3], List.map_eq_nil_iff.1 q2.symm, List.map_eq_nil_iff.1 q4.symm, rfl⟩
  have hc2 : ∀ i, i < L.length → (L.take i).any (nameEq s) = false → (nth L i).name = s → ACalls Tryz.prog 27 [.one (.sl (List.take i (L.map encL))), aE (nth L i).body, eV en] (.tup [.agg [.int .i64 x1, .sl (x2.map Lf.encI), .int .i64 x3, .sl (x4.map Lf.encI)], cI R.e]) := fun i h1 h2 h3 => by
    have := hc i h1
    rw [hh i h1 h2 h3] at this
    unfold resP at this
    rwa [hv] at this
  show ACalls Tryz.prog 27 _ (.tup [R.v, cI R.e])
  rw [hv]
  clear hc hh hm hv
  generalize R.e = e at *
  refine ACalls.of_M TYok (qs := [.agg [.int .i64 x1, .sl (x2.map Lf.encI), .int .i64 x3, .sl (x4.map Lf.encI)], cI e]) [.cell 6 40, .tmp 7] 177 Tryz.func27 (by kernel_rfl) rfl rfl rfl fun G => ?_
  refine W.initA (hw := ?_)
  repeat' (first | ((first | apply U_ | (apply Ug_; exact rfl; exact rfl) | (apply Ugq_; exact rfl; exact rfl) | apply Lex.u | (apply Lex.g; exact rfl; exact rfl) | (apply Lex.gq; exact rfl; exact rfl)); (first | exact QX.B TYok | exact QX.Len TYok | exact QX.Idx TYok | exact QX.Ext TYok | exact QX.Build TYok | exact QX.Cut TYok); exact rfl) | refine SX.Alloc TYok (h := ?_) | refine SX.Store TYok (h := ?_) | refine SX.Box TYok (h := ?_) | refine SC ?_ | (apply S_isnil TYok; exact rfl; exact rfl; exact rfl; exact Ev.auto; intro bn hnil) | (apply RG.gT; exact rfl; exact rfl; (first | assumption | decide)) | (apply RG.gF; exact rfl; exact rfl; (first | assumption | decide | (rw [ne_eq, Bool.not_eq_true]; assumption) | (rw [ne_eq, Bool.not_eq_false]; assumption)); exact rfl) | apply LexS.nil | (apply LexS.f; exact rfl; (first | (apply FreshV.alloc TYok; exact rfl; exact rfl; exact rfl; exact rfl) | (apply FreshV.lit TYok; (repeat (first | exact EvR.nil | apply EvR.cons Ev.auto)); exact rfl; exact rfl; exact rfl; exact rfl; exact rfl; exact rfl; exact rfl; exact rfl; exact rfl) | (apply FreshV.box; exact Ev.auto; exact rfl; exact rfl; exact rfl)); exact rfl; exact rfl; exact rfl) | (apply LexS.s; exact rfl; exact rfl; (apply StoreV.mk TYok; exact Ev.auto; exact Ev.auto; exact rfl; exact rfl; exact rfl; exact rfl; exact rfl)) | ((first | apply LexS.u | (apply LexS.g; exact rfl; exact rfl) | (apply LexS.gq; exact rfl; exact rfl)); (repeat (first | (apply NB.cons; exact rfl) | exact NB.nil rfl)); (first | exact QX.B TYok | exact QX.Len TYok | exact QX.Idx TYok | exact QX.Ext TYok | exact QX.Build TYok | exact QX.Cut TYok); exact rfl; exact rfl; exact rfl) | (apply W.draw2 (id := 10) [0, 0, 3, 7, 15, 0, 32, 127] [[0], [8], [37, 38], [39], [40], [4], [42], [41, 43]] 8 [(37, 1), (38, 256), (39, 412316860416), (40, 549755813888), (41, 1099511627776), (42, 16), (43, 4398046511104), (44, 10995116277760)] mixed (by kernel_rfl) rfl rfl) | (apply W.draw2 (id := 11) [0, 0, 3, 0, 0, 24, 56, 120, 0, 511, 1023, 1023, 4095, 8191] [[0], [8], [45, 46], [0], [8], [48, 49], [50], [51], [5], [47, 52, 53], [54], [54]] 12 [(45, 1), (46, 256), (47, 105553116266496), (48, 1), (49, 256), (50, 844424930131968), (51, 1125899906842624), (52, 2251799813685248), (53, 32), (54, 13651536370466816), (55, 18014398509481984), (56, 18014398509481984)] mixed (by kernel_rfl) rfl rfl) | (apply W.draw2 (id := 26) [0, 0, 2, 6, 14, 0, 63, 127, 127, 511, 1023] [[0], [4], [109], [110], [111], [5], [108, 112, 113], [114], [114]] 9 [(108, 1), (109, 16), (110, 649037107316853453566312041152512), (111, 1298074214633706907132624082305024), (112, 2596148429267413814265248164610048), (113, 32), (114, 15901409129262909612374645008236544), (115, 20769187434139310514121985316880384), (116, 20769187434139310514121985316880384)] mixed (by kernel_rfl) rfl rfl) | (apply W.draw2 (id := 27) [0, 0, 2, 6, 14, 0, 63, 127, 127, 511, 1023] [[0], [4], [118], [119], [120], [5], [117, 121, 122], [123], [123]] 9 [(117, 1), (118, 16), (119, 332306998946228968225951765070086144), (120, 664613997892457936451903530140172288), (121, 1329227995784915872903807060280344576), (122, 32), (123, 8141521474182609721535818244217110528), (124, 10633823966279326983230456482242756608), (125, 10633823966279326983230456482242756608)] mixed (by kernel_rfl) rfl rfl) | (refine W.drawS (id := 17) [0, 0, 2, 6, 14, 0, 63, 127, 255, 255, 0, 1535, 4095] [[0], [4], [82], [83], [84], [5], [81, 85, 86], [87], [80], [80], [], [9, 88], [89]] [(11, (9, ?_)), (10, (9, ?_))] [(11, 9), (10, 9)] mixed (by kernel_rfl) rfl ?_; rotate_left 2) | (refine W.drawS (id := 30) [0, 0, 2, 6, 14, 0, 63, 127, 255, 255, 0, 1535, 4095] [[0], [4], [145], [146], [147], [5], [144, 148, 149], [150], [143], [143], [], [12, 151], [152]] [(11, (12, ?_)), (10, (12, ?_))] [(11, 12), (10, 12)] mixed (by kernel_rfl) rfl ?_; rotate_left 2) | (refine W.condA (ht := fun hb => ?_) (hf := fun hb => ?_) <;> (try simp at hb) <;> (try (exfalso; omega))))
  apply W.loopP (σ := Nat) 177 [0, 4, 5, 6] (fun i => i ≤ L.length ∧ (L.take i).any (nameEq s) = false) (fun i => [(8, vI i)]) (fun _ => [(4, ⟨25, 5, [[.int .i64 1, .int .i64 k, .int .i64 u, .str s, .sl (l.map encX)]]⟩), (5, ⟨29, 4, [[.sl (en.names.map encS), .sl (en.vals.map encQ), .sl (en.iss.map encS), .sl (en.rates.map encQ)]]⟩), (6, ⟨40, 4, [[.int .i64 0, .slnil, .int .i64 0, .slnil]]⟩)]) (fun i => L.length - i) (0)
  case hp => repeat (first | exact Pick.nil | apply Pick.cons rfl)
  case h0 =>
    refine ⟨by simp, ?_⟩
    exact Le.auto
  case round =>
    rintro i ⟨h1, h2⟩
    apply W.norm (by repeat (first | exact App.nil | apply App.cons))
    by_cases hi : i < L.length
    · by_cases hn : (nth L i).name = s
      · have c1 := hc2 i hi h2 hn
        repeat' (first | ((first | apply U_ | (apply Ug_; exact rfl; exact rfl) | (apply Ugq_; exact rfl; exact rfl) | apply Lex.u | (apply Lex.g; exact rfl; exact rfl) | (apply Lex.gq; exact rfl; exact rfl)); (first | exact QX.B TYok | exact QX.Len TYok | exact QX.Idx TYok | exact QX.Ext TYok | exact QX.Build TYok | exact QX.Cut TYok | exact QCd (c1)); exact rfl) | refine SX.Alloc TYok (h := ?_) | refine SX.Store TYok (h := ?_) | refine SX.Box TYok (h := ?_) | refine SC ?_ | (apply S_isnil TYok; exact rfl; exact rfl; exact rfl; exact Ev.auto; intro bn hnil) | (apply RG.gT; exact rfl; exact rfl; (first | assumption | decide)) | (apply RG.gF; exact rfl; exact rfl; (first | assumption | decide | (rw [ne_eq, Bool.not_eq_true]; assumption) | (rw [ne_eq, Bool.not_eq_false]; assumption)); exact rfl) | apply LexS.nil | (apply LexS.f; exact rfl; (first | (apply FreshV.alloc TYok; exact rfl; exact rfl; exact rfl; exact rfl) | (apply FreshV.lit TYok; (repeat (first | exact EvR.nil | apply EvR.cons Ev.auto)); exact rfl; exact rfl; exact rfl; exact rfl; exact rfl; exact rfl; exact rfl; exact rfl; exact rfl) | (apply FreshV.box; exact Ev.auto; exact rfl; exact rfl; exact rfl)); exact rfl; exact rfl; exact rfl) | (apply LexS.s; exact rfl; exact rfl; (apply StoreV.mk TYok; exact Ev.auto; exact Ev.auto; exact rfl; exact rfl; exact rfl; exact rfl; exact rfl)) | ((first | apply LexS.u | (apply LexS.g; exact rfl; exact rfl) | (apply LexS.gq; exact rfl; exact rfl)); (repeat (first | (apply NB.cons; exact rfl) | exact NB.nil rfl)); (first | exact QX.B TYok | exact QX.Len TYok | exact QX.Idx TYok | exact QX.Ext TYok | exact QX.Build TYok | exact QX.Cut TYok | exact QCd (c1)); exact rfl; exact rfl; exact rfl) | (apply W.draw2 (id := 10) [0, 0, 3, 7, 15, 0, 32, 127] [[0], [8], [37, 38], [39], [40], [4], [42], [41, 43]] 8 [(37, 1), (38, 256), (39, 412316860416), (40, 549755813888), (41, 1099511627776), (42, 16), (43, 4398046511104), (44, 10995116277760)] mixed (by kernel_rfl) rfl rfl) | (apply W.draw2 (id := 11) [0, 0, 3, 0, 0, 24, 56, 120, 0, 511, 1023, 1023, 4095, 8191] [[0], [8], [45, 46], [0], [8], [48, 49], [50], [51], [5], [47, 52, 53], [54], [54]] 12 [(45, 1), (46, 256), (47, 105553116266496), (48, 1), (49, 256), (50, 844424930131968), (51, 1125899906842624), (52, 2251799813685248), (53, 32), (54, 13651536370466816), (55, 18014398509481984), (56, 18014398509481984)] mixed (by kernel_rfl) rfl rfl) | (apply W.draw2 (id := 26) [0, 0, 2, 6, 14, 0, 63, 127, 127, 511, 1023] [[0], [4], [109], [110], [111], [5], [108, 112, 113], [114], [114]] 9 [(108, 1), (109, 16), (110, 649037107316853453566312041152512), (111, 1298074214633706907132624082305024), (112, 2596148429267413814265248164610048), (113, 32), (114, 15901409129262909612374645008236544), (115, 20769187434139310514121985316880384), (116, 20769187434139310514121985316880384)] mixed (by kernel_rfl) rfl rfl) | (apply W.draw2 (id := 27) [0, 0, 2, 6, 14, 0, 63, 127, 127, 511, 1023] [[0], [4], [118], [119], [120], [5], [117, 121, 122], [123], [123]] 9 [(117, 1), (118, 16), (119, 332306998946228968225951765070086144), (120, 664613997892457936451903530140172288), (121, 1329227995784915872903807060280344576), (122, 32), (123, 8141521474182609721535818244217110528), (124, 10633823966279326983230456482242756608), (125, 10633823966279326983230456482242756608)] mixed (by kernel_rfl) rfl rfl) | (refine W.drawS (id := 17) [0, 0, 2, 6, 14, 0, 63, 127, 255, 255, 0, 1535, 4095] [[0], [4], [82], [83], [84], [5], [81, 85, 86], [87], [80], [80], [], [9, 88], [89]] [(11, (9, ?_)), (10, (9, ?_))] [(11, 9), (10, 9)] mixed (by kernel_rfl) rfl ?_; rotate_left 2) | (refine W.drawS (id := 30) [0, 0, 2, 6, 14, 0, 63, 127, 255, 255, 0, 1535, 4095] [[0], [4], [145], [146], [147], [5], [144, 148, 149], [150], [143], [143], [], [12, 151], [152]] [(11, (12, ?_)), (10, (12, ?_))] [(11, 12), (10, 12)] mixed (by kernel_rfl) rfl ?_; rotate_left 2) | (refine W.condA (ht := fun hb => ?_) (hf := fun hb => ?_) <;> (try simp at hb) <;> (try (exfalso; omega))))
        all_goals first
          | exact FinM.ret ResM.auto
          | (exfalso; omega)
          | (exfalso; exact hb hn)
          | trace_state
      · repeat' (first | ((first | apply U_ | (apply Ug_; exact rfl; exact rfl) | (apply Ugq_; exact rfl; exact rfl) | apply Lex.u | (apply Lex.g; exact rfl; exact rfl) | (apply Lex.gq; exact rfl; exact rfl)); (first | exact QX.B TYok | exact QX.Len TYok | exact QX.Idx TYok | exact QX.Ext TYok | exact QX.Build TYok | exact QX.Cut TYok); exact rfl) | refine SX.Alloc TYok (h := ?_) | refine SX.Store TYok (h := ?_) | refine SX.Box TYok (h := ?_) | refine SC ?_ | (apply S_isnil TYok; exact rfl; exact rfl; exact rfl; exact Ev.auto; intro bn hnil) | (apply RG.gT; exact rfl; exact rfl; (first | assumption | decide)) | (apply RG.gF; exact rfl; exact rfl; (first | assumption | decide | (rw [ne_eq, Bool.not_eq_true]; assumption) | (rw [ne_eq, Bool.not_eq_false]; assumption)); exact rfl) | apply LexS.nil | (apply LexS.f; exact rfl; (first | (apply FreshV.alloc TYok; exact rfl; exact rfl; exact rfl; exact rfl) | (apply FreshV.lit TYok; (repeat (first | exact EvR.nil | apply EvR.cons Ev.auto)); exact rfl; exact rfl; exact rfl; exact rfl; exact rfl; exact rfl; exact rfl; exact rfl; exact rfl) | (apply FreshV.box; exact Ev.auto; exact rfl; exact rfl; exact rfl)); exact rfl; exact rfl; exact rfl) | (apply LexS.s; exact rfl; exact rfl; (apply StoreV.mk TYok; exact Ev.auto; exact Ev.auto; exact rfl; exact rfl; exact rfl; exact rfl; exact rfl)) | ((first | apply LexS.u | (apply LexS.g; exact rfl; exact rfl) | (apply LexS.gq; exact rfl; exact rfl)); (repeat (first | (apply NB.cons; exact rfl) | exact NB.nil rfl)); (first | exact QX.B TYok | exact QX.Len TYok | exact QX.Idx TYok | exact QX.Ext TYok | exact QX.Build TYok | exact QX.Cut TYok); exact rfl; exact rfl; exact rfl) | (apply W.draw2 (id := 10) [0, 0, 3, 7, 15, 0, 32, 127] [[0], [8], [37, 38], [39], [40], [4], [42], [41, 43]] 8 [(37, 1), (38, 256), (39, 412316860416), (40, 549755813888), (41, 1099511627776), (42, 16), (43, 4398046511104), (44, 10995116277760)] mixed (by kernel_rfl) rfl rfl) | (apply W.draw2 (id := 11) [0, 0, 3, 0, 0, 24, 56, 120, 0, 511, 1023, 1023, 4095, 8191] [[0], [8], [45, 46], [0], [8], [48, 49], [50], [51], [5], [47, 52, 53], [54], [54]] 12 [(45, 1), (46, 256), (47, 105553116266496), (48, 1), (49, 256), (50, 844424930131968), (51, 1125899906842624), (52, 2251799813685248), (53, 32), (54, 13651536370466816), (55, 18014398509481984), (56, 18014398509481984)] mixed (by kernel_rfl) rfl rfl) | (apply W.draw2 (id := 26) [0, 0, 2, 6, 14, 0, 63, 127, 127, 511, 1023] [[0], [4], [109], [110], [111], [5], [108, 112, 113], [114], [114]] 9 [(108, 1), (109, 16), (110, 649037107316853453566312041152512), (111, 1298074214633706907132624082305024), (112, 2596148429267413814265248164610048), (113, 32), (114, 15901409129262909612374645008236544), (115, 20769187434139310514121985316880384), (116, 20769187434139310514121985316880384)] mixed (by kernel_rfl) rfl rfl) | (apply W.draw2 (id := 27) [0, 0, 2, 6, 14, 0, 63, 127, 127, 511, 1023] [[0], [4], [118], [119], [120], [5], [117, 121, 122], [123], [123]] 9 [(117, 1), (118, 16), (119, 332306998946228968225951765070086144), (120, 664613997892457936451903530140172288), (121, 1329227995784915872903807060280344576), (122, 32), (123, 8141521474182609721535818244217110528), (124, 10633823966279326983230456482242756608), (125, 10633823966279326983230456482242756608)] mixed (by kernel_rfl) rfl rfl) | (refine W.drawS (id := 17) [0, 0, 2, 6, 14, 0, 63, 127, 255, 255, 0, 1535, 4095] [[0], [4], [82], [83], [84], [5], [81, 85, 86], [87], [80], [80], [], [9, 88], [89]] [(11, (9, ?_)), (10, (9, ?_))] [(11, 9), (10, 9)] mixed (by kernel_rfl) rfl ?_; rotate_left 2) | (refine W.drawS (id := 30) [0, 0, 2, 6, 14, 0, 63, 127, 255, 255, 0, 1535, 4095] [[0], [4], [145], [146], [147], [5], [144, 148, 149], [150], [143], [143], [], [12, 151], [152]] [(11, (12, ?_)), (10, (12, ?_))] [(11, 12), (10, 12)] mixed (by kernel_rfl) rfl ?_; rotate_left 2) | (refine W.condA (ht := fun hb => ?_) (hf := fun hb => ?_) <;> (try simp at hb) <;> (try (exfalso; omega))))
        all_goals first
          | (refine ⟨i + 1, ⟨by omega, by rw [any_take hi, h2]; exact decide_eq_false hn⟩, ?_, by (try simp only); omega⟩; exact Le.auto)
          | (exfalso; omega)
          | (exfalso; exact hn hb)
          | trace_state
    · obtain rfl : i = L.length := by omega
      rw [List.take_length] at h2
      obtain ⟨q1, rfl, rfl, rfl⟩ := hm2 h2
      simp only [List.cons.injEq, and_true] at q1
      obtain ⟨rfl, rfl⟩ := q1
      repeat' (first | ((first | apply U_ | (apply Ug_; exact rfl; exact rfl) | (apply Ugq_; exact rfl; exact rfl) | apply Lex.u | (apply Lex.g; exact rfl; exact rfl) | (apply Lex.gq; exact rfl; exact rfl)); (first | exact QX.B TYok | exact QX.Len TYok | exact QX.Idx TYok | exact QX.Ext TYok | exact QX.Build TYok | exact QX.Cut TYok); exact rfl) | refine SX.Alloc TYok (h := ?_) | refine SX.Store TYok (h := ?_) | refine SX.Box TYok (h := ?_) | refine SC ?_ | (apply S_isnil TYok; exact rfl; exact rfl; exact rfl; exact Ev.auto; intro bn hnil) | (apply RG.gT; exact rfl; exact rfl; (first | assumption | decide)) | (apply RG.gF; exact rfl; exact rfl; (first | assumption | decide | (rw [ne_eq, Bool.not_eq_true]; assumption) | (rw [ne_eq, Bool.not_eq_false]; assumption)); exact rfl) | apply LexS.nil | (apply LexS.f; exact rfl; (first | (apply FreshV.alloc TYok; exact rfl; exact rfl; exact rfl; exact rfl) | (apply FreshV.lit TYok; (repeat (first | exact EvR.nil | apply EvR.cons Ev.auto)); exact rfl; exact rfl; exact rfl; exact rfl; exact rfl; exact rfl; exact rfl; exact rfl; exact rfl) | (apply FreshV.box; exact Ev.auto; exact rfl; exact rfl; exact rfl)); exact rfl; exact rfl; exact rfl) | (apply LexS.s; exact rfl; exact rfl; (apply StoreV.mk TYok; exact Ev.auto; exact Ev.auto; exact rfl; exact rfl; exact rfl; exact rfl; exact rfl)) | ((first | apply LexS.u | (apply LexS.g; exact rfl; exact rfl) | (apply LexS.gq; exact rfl; exact rfl)); (repeat (first | (apply NB.cons; exact rfl) | exact NB.nil rfl)); (first | exact QX.B TYok | exact QX.Len TYok | exact QX.Idx TYok | exact QX.Ext TYok | exact QX.Build TYok | exact QX.Cut TYok); exact rfl; exact rfl; exact rfl) | (apply W.draw2 (id := 10) [0, 0, 3, 7, 15, 0, 32, 127] [[0], [8], [37, 38], [39], [40], [4], [42], [41, 43]] 8 [(37, 1), (38, 256), (39, 412316860416), (40, 549755813888), (41, 1099511627776), (42, 16), (43, 4398046511104), (44, 10995116277760)] mixed (by kernel_rfl) rfl rfl) | (apply W.draw2 (id := 11) [0, 0, 3, 0, 0, 24, 56, 120, 0, 511, 1023, 1023, 4095, 8191] [[0], [8], [45, 46], [0], [8], [48, 49], [50], [51], [5], [47, 52, 53], [54], [54]] 12 [(45, 1), (46, 256), (47, 105553116266496), (48, 1), (49, 256), (50, 844424930131968), (51, 1125899906842624), (52, 2251799813685248), (53, 32), (54, 13651536370466816), (55, 18014398509481984), (56, 18014398509481984)] mixed (by kernel_rfl) rfl rfl) | (apply W.draw2 (id := 26) [0, 0, 2, 6, 14, 0, 63, 127, 127, 511, 1023] [[0], [4], [109], [110], [111], [5], [108, 112, 113], [114], [114]] 9 [(108, 1), (109, 16), (110, 649037107316853453566312041152512), (111, 1298074214633706907132624082305024), (112, 2596148429267413814265248164610048), (113, 32), (114, 15901409129262909612374645008236544), (115, 20769187434139310514121985316880384), (116, 20769187434139310514121985316880384)] mixed (by kernel_rfl) rfl rfl) | (apply W.draw2 (id := 27) [0, 0, 2, 6, 14, 0, 63, 127, 127, 511, 1023] [[0], [4], [118], [119], [120], [5], [117, 121, 122], [123], [123]] 9 [(117, 1), (118, 16), (119, 332306998946228968225951765070086144), (120, 664613997892457936451903530140172288), (121, 1329227995784915872903807060280344576), (122, 32), (123, 8141521474182609721535818244217110528), (124, 10633823966279326983230456482242756608), (125, 10633823966279326983230456482242756608)] mixed (by kernel_rfl) rfl rfl) | (refine W.drawS (id := 17) [0, 0, 2, 6, 14, 0, 63, 127, 255, 255, 0, 1535, 4095] [[0], [4], [82], [83], [84], [5], [81, 85, 86], [87], [80], [80], [], [9, 88], [89]] [(11, (9, ?_)), (10, (9, ?_))] [(11, 9), (10, 9)] mixed (by kernel_rfl) rfl ?_; rotate_left 2) | (refine W.drawS (id := 30) [0, 0, 2, 6, 14, 0, 63, 127, 255, 255, 0, 1535, 4095] [[0], [4], [145], [146], [147], [5], [144, 148, 149], [150], [143], [143], [], [12, 151], [152]] [(11, (12, ?_)), (10, (12, ?_))] [(11, 12), (10, 12)] mixed (by kernel_rfl) rfl ?_; rotate_left 2) | (refine W.condA (ht := fun hb => ?_) (hf := fun hb => ?_) <;> (try simp at hb) <;> (try (exfalso; omega))))
      all_goals first
        | exact FinM.ret (ResM.cell rfl rfl rfl rfl zeroSubF (ResM.tmp rfl rfl PSub.rfl' ResM.nil))
        | (exfalso; omega)
        | trace_state
end
end Go.Proofs.YtjedkgogjehigaaGreat
end
