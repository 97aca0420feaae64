/-
  Part 8 of what the proof rests on.
-/
import Derived.Test.YthddpdfljjhfeaaYS07
import Derived.Test.YthddpdfljjhfeaaYS02
import Derived.Test.YthddpdfljjhfeaaYS06
import Derived.Test.YthddpdfljjhfeaaYS04
import Derived.Test.YthddpdfljjhfeaaYS03
import Derived.ProofKit
import Derived.OpenShut
import Derived.Carry
section
set_option linter.unusedVariables false
set_option linter.unusedSimpArgs false
set_option maxHeartbeats 8000000
namespace Go.Proofs.Ythddpdfljjhfeaa
open Lf Go
attribute [local irreducible] PureOp EffOp Ev RG W Then InBlock Lf.Fin nth App InitE Pick EvL EvD EvP EvR ResL Lf.Lex SubR SubBR FinO FinM ResM ResD FinS val pw digs trimL
section
open CalLaw
theorem tmod4 (y : Int) : (y.tmod 4 = 0) = (y % 4 = 0) := propext (by rw [← Int.dvd_iff_tmod_eq_zero, Int.dvd_iff_emod_eq_zero])
theorem tmod100 (y : Int) : (y.tmod 100 = 0) = (y % 100 = 0) := propext (by rw [← Int.dvd_iff_tmod_eq_zero, Int.dvd_iff_emod_eq_zero])
theorem tmod400 (y : Int) : (y.tmod 400 = 0) = (y % 400 = 0) := propext (by rw [← Int.dvd_iff_tmod_eq_zero, Int.dvd_iff_emod_eq_zero])
theorem leap_t (y : Int) : (decide (y.tmod 4 = 0) && (!decide (y.tmod 100 = 0) || decide (y.tmod 400 = 0))) = leap y := by
  unfold leap
  simp only [tmod4, tmod100, tmod400]
theorem isLeap_ok (y : Int) : ACalls Try.prog 22 [cI y] (.pv (cB (leap y))) := by
  rw [← leap_t]
  generalize h1 : y.tmod 4 = a
  generalize h2 : y.tmod 100 = b
  generalize h3 : y.tmod 400 = c
  refine ACalls.of_W (qs := [cB (decide (a = 0) && (!decide (b = 0) || decide (c = 0)))]) [2] 16 Try.func22 (by kernel_rfl) rfl rfl rfl fun G => ?_
  refine W.initA (hw := ?_)
  repeat' (first | ((first | apply U_ | (apply Ug_; exact rfl; exact rfl) | (apply Ugq_; exact rfl; exact rfl)); (first | (apply Q_remS h3 (by decide); exact Ev.auto; exact Ev.auto) | (apply Q_remS h2 (by decide); exact Ev.auto; exact Ev.auto) | (apply Q_remS h1 (by decide); exact Ev.auto; exact Ev.auto) | exact QX.B TYok); exact rfl) | refine SC ?_ | (apply S_isnil TYok; exact rfl; exact rfl; exact rfl; exact Ev.auto; intro bn hnil) | refine SG ?_ | (refine W.condA (ht := fun hb => ?_) (hf := fun hb => ?_) <;> (try simp at hb) <;> (try (exfalso; omega))))
  all_goals first
    | exact Fin.ret ResL.auto
    | trace_state
theorem last_ok (y m : Int) : ACalls Try.prog 49 [cI y, cI m] (.pv (cI (last y m))) := by
  have l1 := isLeap_ok y
  generalize hb : leap y = b at l1
  generalize hr : last y m = r
  unfold last at hr
  rw [hb] at hr
  refine ACalls.of_W (qs := [cI r]) [4] 23 Try.func49 (by kernel_rfl) rfl rfl rfl fun G => ?_
  refine W.initA (hw := ?_)
  repeat' (first | ((first | apply U_); (first | exact QX.B TYok | exact QCd (l1)); exact rfl) | refine SC ?_ | (apply S_isnil TYok; exact rfl; exact rfl; exact rfl; exact Ev.auto; intro bn hnil) | (refine W.condA (ht := fun hb => ?_) (hf := fun hb => ?_) <;> (try simp at hb) <;> (try (exfalso; omega))))
  all_goals first
    | (obtain rfl : r = 31 := by omega
       exact Fin.ret ResL.auto)
    | (obtain rfl : r = 30 := by omega
       exact Fin.ret ResL.auto)
    | (obtain rfl : r = 29 := by simp_all
       exact Fin.ret ResL.auto)
    | (obtain rfl : r = 28 := by simp_all
       exact Fin.ret ResL.auto)
    | (obtain rfl : r = 0 := by omega
       exact Fin.ret ResL.auto)
    | trace_state
theorem isDay_ok (n : Int) : ACalls Try.prog 51 [cI n] (.pv (cB (decide (0 ≤ n) && decide (n ≤ 200000)))) := by
  refine ACalls.of_W (qs := [cB (decide (0 ≤ n) && decide (n ≤ 200000))]) [2] 9 Try.func51 (by kernel_rfl) rfl rfl rfl fun G => ?_
  refine W.initA (hw := ?_)
  repeat' (first | ((first | apply U_ | (apply Ug_; exact rfl; exact rfl) | (apply Ugq_; exact rfl; exact rfl)); (first | exact QX.B TYok); exact rfl) | refine SC ?_ | refine SG ?_ | (refine W.condA (ht := fun hb => ?_) (hf := fun hb => ?_) <;> (try simp at hb) <;> (try (exfalso; omega))))
  all_goals exact Fin.ret ResL.auto
theorem day_ok (n : Int) : ACalls Try.prog 58 [cI n] (.pv (cB (decide (0 ≤ n) && decide (n ≤ 200000)))) := by
  refine ACalls.of_W (qs := [cB (decide (0 ≤ n) && decide (n ≤ 200000))]) [2] 9 Try.func58 (by kernel_rfl) rfl rfl rfl fun G => ?_
  refine W.initA (hw := ?_)
  repeat' (first | ((first | apply U_ | (apply Ug_; exact rfl; exact rfl) | (apply Ugq_; exact rfl; exact rfl)); (first | exact QX.B TYok); exact rfl) | refine SC ?_ | refine SG ?_ | (refine W.condA (ht := fun hb => ?_) (hf := fun hb => ?_) <;> (try simp at hb) <;> (try (exfalso; omega))))
  all_goals exact Fin.ret ResL.auto
theorem before_ok (y : Int) (h : 1 ≤ y ∧ y ≤ 4000) : ACalls Try.prog 50 [cI y] (.pv (cI (before y))) := by
  generalize hr : before y = r
  unfold before at hr
  refine ACalls.of_W (qs := [cI r]) [2] 18 Try.func50 (by kernel_rfl) rfl rfl rfl fun G => ?_
  refine W.initA (hw := ?_)
  repeat' (first | ((first | apply U_); (first | exact QX.B TYok); exact rfl) | refine SC ?_ | (refine W.condA (ht := fun hb => ?_) (hf := fun hb => ?_) <;> (try simp at hb) <;> (try (exfalso; omega))))
  all_goals first
    | (refine Fin.ret (ResL.cons rfl rfl (PSub.of_eq ?_) ResL.nil)
       congr 2
       omega)
    | trace_state
end
end Go.Proofs.Ythddpdfljjhfeaa
end
section
set_option linter.unusedVariables false
set_option linter.unusedSimpArgs false
set_option maxHeartbeats 8000000
namespace Go.Proofs.Ythddpdfljjhfeaa
open Lf Go
attribute [local irreducible] PureOp EffOp Ev RG W Then InBlock Lf.Fin nth App InitE Pick EvL EvD EvP EvR ResL Lf.Lex SubR SubBR FinO FinM ResM ResD FinS val pw digs trimL
section
open CalLaw
/-- the day of a date, or why there is none -/
def dofV (y m d : Int) : Int := if (1 ≤ d ∧ d ≤ last y m) ∧ (1900 ≤ y ∧ y ≤ 3000) ∧ num y m d ≤ 200000 then num y m d else 0
def dofE (y m d : Int) : Int := if 1 ≤ d ∧ d ≤ last y m then (if (1900 ≤ y ∧ y ≤ 3000) ∧ num y m d ≤ 200000 then 0 else 3) else 23
theorem before_rng {y : Int} (h : 1900 ≤ y ∧ y ≤ 3000) : 0 ≤ before y ∧ before y ≤ 402600 := by
  have h1 := before_mono 1900 (y - 1900).toNat
  rw [show (1900 : Int) + ((y - 1900).toNat : Int) = y by omega, before_1900] at h1
  omega
theorem mdays_rng (y : Int) : ∀ k : Nat, 0 ≤ mdays y k ∧ mdays y k ≤ 31 * k
  | 0 => by simp [mdays]
  | k + 1 => by
    have h1 := mdays_rng y k
    have h2 := last_le y ((k : Int) + 1)
    rw [mdays]
    omega
theorem dof_ok (y m d : Int) : ACalls Try.prog 20 [cI y, cI m, cI d] (.tup [cI (dofV y m d), cI (dofE y m d)]) := by
  have l1 := last_ok y m
  by_cases h1 : 1 ≤ d ∧ d ≤ last y m
  case neg =>
    rw [show dofV y m d = 0 from if_neg fun q => h1 q.1, show dofE y m d = 23 from if_neg h1]
    generalize last y m = L at *
    refine ACalls.of_W (qs := [cI 0, cI 23]) [6, 7] 44 Try.func20 (by kernel_rfl) rfl rfl rfl fun G => ?_
    refine W.initA (hw := ?_)
    repeat' (first | ((first | apply U_ | (apply Ug_; exact rfl; exact rfl) | (apply Ugq_; exact rfl; exact rfl)); (first | exact QX.B TYok | exact QCd (l1)); exact rfl) | refine SC ?_ | refine SG ?_ | (refine W.condA (ht := fun hb => ?_) (hf := fun hb => ?_) <;> (try simp at hb) <;> (try (exfalso; first | exact h1 hb | omega))))
    all_goals first
      | exact Fin.ret ResL.auto
      | (exfalso; omega)
      | trace_state
  by_cases h2 : 1900 ≤ y ∧ y ≤ 3000
  case neg =>
    rw [show dofV y m d = 0 from if_neg fun q => h2 q.2.1, show dofE y m d = 3 by unfold dofE; rw [if_pos h1, if_neg fun q => h2 q.1]]
    generalize last y m = L at *
    refine ACalls.of_W (qs := [cI 0, cI 3]) [6, 7] 44 Try.func20 (by kernel_rfl) rfl rfl rfl fun G => ?_
    refine W.initA (hw := ?_)
    repeat' (first | ((first | apply U_ | (apply Ug_; exact rfl; exact rfl) | (apply Ugq_; exact rfl; exact rfl)); (first | exact QX.B TYok | exact QCd (l1)); exact rfl) | refine SC ?_ | refine SG ?_ | (refine W.condA (ht := fun hb => ?_) (hf := fun hb => ?_) <;> (try simp at hb) <;> (try (exfalso; first | exact h2 hb | omega))))
    all_goals first
      | exact Fin.ret ResL.auto
      | (exfalso; omega)
      | trace_state
  have hm := last_in h1
  have b1 := before_ok y (by omega)
  have br := before_rng h2
  have lr := last_rng y m hm
  have e1 : num y m d = before y + mdays y (m - 1).toNat + d - 1 := rfl
  have mr := mdays_rng y (m - 1).toNat
  have d1 := isDay_ok (num y m d)
  have ev : dofV y m d = if num y m d ≤ 200000 then num y m d else 0 := by
    unfold dofV
    by_cases k : num y m d ≤ 200000
    · rw [if_pos k, if_pos ⟨h1, h2, k⟩]
    · rw [if_neg k, if_neg fun q => k q.2.2]
  have ee : dofE y m d = if num y m d ≤ 200000 then 0 else 3 := by
    unfold dofE
    rw [if_pos h1]
    by_cases k : num y m d ≤ 200000
    · rw [if_pos k, if_pos ⟨h2, k⟩]
    · rw [if_neg k, if_neg fun q => k q.2]
  rw [ev, ee]
  generalize num y m d = n at *
  generalize hB : before y = B at *
  refine ACalls.of_W (qs := [cI (if n ≤ 200000 then n else 0), cI (if n ≤ 200000 then 0 else 3)]) [6, 7] 44 Try.func20 (by kernel_rfl) rfl rfl rfl fun G => ?_
  refine W.initA (hw := ?_)
  repeat' (first | ((first | apply U_ | (apply Ug_; exact rfl; exact rfl) | (apply Ugq_; exact rfl; exact rfl)); (first | exact QX.B TYok | exact QCd (l1) | exact QCd (b1)); exact rfl) | refine SC ?_ | refine SG ?_ | (refine W.condA (ht := fun hb => ?_) (hf := fun hb => ?_) <;> (try simp at hb) <;> (try (exfalso; omega))))
  apply W.loopP (σ := Nat) 44 [0, 1] (fun k => (k : Int) + 1 ≤ m) (fun k => [(9, vI ((k : Int) + 1)), (8, vI (B + d - 1 + mdays y k))]) (fun _ => []) (fun k => m.toNat - k) (0)
  case hp => repeat (first | exact Pick.nil | apply Pick.cons rfl)
  case h0 =>
    refine ⟨by omega, ?_⟩
    rw [show mdays y 0 = 0 from rfl]
    exact Le.auto
  case round =>
    rintro k gk
    apply W.norm (by repeat (first | exact App.nil | apply App.cons))
    by_cases hk : (k : Int) + 1 < m
    · have l2 := last_ok y ((k : Int) + 1)
      have r2 := last_le y ((k : Int) + 1)
      have r3 := mdays_rng y k
      have e2 : mdays y (k + 1) = mdays y k + last y ((k : Int) + 1) := rfl
      generalize last y ((k : Int) + 1) = X at *
      generalize mdays y k = Y at *
      repeat' (first | ((first | apply U_ | (apply Ug_; exact rfl; exact rfl) | (apply Ugq_; exact rfl; exact rfl)); (first | exact QX.B TYok | exact QCd (l2)); exact rfl) | refine SC ?_ | refine SG ?_ | (refine W.condA (ht := fun hb => ?_) (hf := fun hb => ?_) <;> (try simp at hb) <;> (try (exfalso; omega))))
      all_goals first
        | (refine ⟨k + 1, by omega, ?_, by omega⟩
           (try dsimp only)
           rw [e2, show (((k + 1 : Nat)) : Int) + 1 = (k : Int) + 1 + 1 by omega]
           exact Le.auto)
        | trace_state
    · have ek : (m - 1).toNat = k := by omega
      rw [ek] at e1 mr
      have e3 : B + d - 1 + mdays y k = n := by omega
      rw [e3]
      by_cases h3 : n ≤ 200000
      · rw [if_pos h3, if_pos h3]
        have e4 : (decide (0 ≤ n) && decide (n ≤ 200000)) = true := by rw [decide_eq_true h3, decide_eq_true (by omega)]; rfl
        rw [e4] at d1
        repeat' (first | ((first | apply U_ | (apply Ug_; exact rfl; exact rfl) | (apply Ugq_; exact rfl; exact rfl)); (first | exact QX.B TYok | exact QCd (d1)); exact rfl) | refine SC ?_ | refine SG ?_ | (refine W.condA (ht := fun hb => ?_) (hf := fun hb => ?_) <;> (try simp at hb) <;> (try (exfalso; omega))))
        all_goals first
          | exact Fin.ret ResL.auto
          | trace_state
      · rw [if_neg h3, if_neg h3]
        have e4 : (decide (0 ≤ n) && decide (n ≤ 200000)) = false := by rw [decide_eq_false h3, Bool.and_false]
        rw [e4] at d1
        repeat' (first | ((first | apply U_ | (apply Ug_; exact rfl; exact rfl) | (apply Ugq_; exact rfl; exact rfl)); (first | exact QX.B TYok | exact QCd (d1)); exact rfl) | refine SC ?_ | refine SG ?_ | (refine W.condA (ht := fun hb => ?_) (hf := fun hb => ?_) <;> (try simp at hb) <;> (try (exfalso; omega))))
        all_goals first
          | exact Fin.ret ResL.auto
          | trace_state
theorem parts_ok (n y m d : Int) (h : 0 ≤ n ∧ n ≤ 200000) (hy : 1900 ≤ y ∧ y ≤ 2447) (hd : IsDate y m d) (hn : num y m d = n) : ACalls Try.prog 52 [cI n] (.tup [cI y, cI m, cI d, cI 0]) := by
  have d1 := isDay_ok n
  have e4 : (decide (0 ≤ n) && decide (n ≤ 200000)) = true := by rw [← Bool.decide_and, decide_eq_true h]
  rw [e4] at d1
  have hyr := hd.year
  have e1 : num y m d = before y + mdays y (m - 1).toNat + d - 1 := rfl
  rw [hn] at hyr e1
  obtain ⟨m1, m12, dd1, ddl⟩ := hd
  have q0 : n / 366 = (((n / 366).toNat : Nat) : Int) := by omega
  have b0 := (before_mono 1900 (n / 366).toNat).2
  rw [before_1900, ← q0] at b0
  have hq : 1900 + n / 366 ≤ y := by
    rcases Int.lt_or_le y (1900 + n / 366) with k | k
    · have := before_lt k
      omega
    · exact k
  refine ACalls.of_W (qs := [cI y, cI m, cI d, cI 0]) [2, 3, 4, 5] 40 Try.func52 (by kernel_rfl) rfl rfl rfl fun G => ?_
  refine W.initA (hw := ?_)
  repeat' (first | ((first | apply U_); (first | exact QX.B TYok | exact QCd (d1)); exact rfl) | refine SC ?_ | (refine W.condA (ht := fun hb => ?_) (hf := fun hb => ?_) <;> (try simp at hb) <;> (try (exfalso; omega))))
  apply W.loopP (σ := Int) 40 [0] (fun z => 1900 ≤ z ∧ z ≤ y) (fun z => [(2, vI z)]) (fun _ => []) (fun z => (y - z).toNat) ((1900 + n / 366))
  case hp => repeat (first | exact Pick.nil | apply Pick.cons rfl)
  case h0 =>
    refine ⟨by omega, ?_⟩
    exact Le.auto
  case round =>
    rintro z ⟨g1, g2⟩
    apply W.norm (by repeat (first | exact App.nil | apply App.cons))
    have b1 := before_ok (z + 1) (by omega)
    by_cases hz : z < y
    · have hle : before (z + 1) ≤ n := by
        rw [before_succ]
        have := before_lt hz
        omega
      generalize before (z + 1) = X at *
      repeat' (first | ((first | apply U_); (first | exact QX.B TYok | exact QCd (b1)); exact rfl) | refine SC ?_ | (refine W.condA (ht := fun hb => ?_) (hf := fun hb => ?_) <;> (try simp at hb) <;> (try (exfalso; omega))))
      all_goals first
        | (refine ⟨z + 1, by omega, ?_, by omega⟩; exact Le.auto)
        | trace_state
    · obtain rfl : z = y := by omega
      have hgt : n < before (z + 1) := by rw [before_succ]; exact hyr.2
      have b2 := before_ok z (by omega)
      have br := before_rng (y := z) (by omega)
      generalize before (z + 1) = X at *
      generalize before z = B at *
      repeat' (first | ((first | apply U_); (first | exact QX.B TYok | exact QCd (b1) | exact QCd (b2)); exact rfl) | refine SC ?_ | (refine W.condA (ht := fun hb => ?_) (hf := fun hb => ?_) <;> (try simp at hb) <;> (try (exfalso; omega))))
      apply W.loopP (σ := Nat) 40 [2] (fun k => (k : Int) + 1 ≤ m) (fun k => [(3, vI ((k : Int) + 1)), (6, vI (n - B - mdays z k))]) (fun _ => []) (fun k => m.toNat - k) (0)
      case hp => repeat (first | exact Pick.nil | apply Pick.cons rfl)
      case h0 =>
        refine ⟨by omega, ?_⟩
        rw [show mdays z 0 = 0 from rfl]
        exact Le.auto
      case round =>
        rintro k gk
        apply W.norm (by repeat (first | exact App.nil | apply App.cons))
        have l2 := last_ok z ((k : Int) + 1)
        have r2 := last_le z ((k : Int) + 1)
        have r3 := mdays_rng z k
        have e2 : mdays z (k + 1) = mdays z k + last z ((k : Int) + 1) := rfl
        by_cases hk : (k : Int) + 1 < m
        · have mm := mdays_mono z (k + 1) ((m - 1).toNat - (k + 1))
          rw [show k + 1 + ((m - 1).toNat - (k + 1)) = (m - 1).toNat by omega] at mm
          rw [e2] at mm
          generalize last z ((k : Int) + 1) = X1 at *
          generalize mdays z k = Y at *
          repeat' (first | ((first | apply U_); (first | exact QX.B TYok | exact QCd (l2)); exact rfl) | refine SC ?_ | (refine W.condA (ht := fun hb => ?_) (hf := fun hb => ?_) <;> (try simp at hb) <;> (try (exfalso; omega))))
          all_goals first
            | (refine ⟨k + 1, by omega, ?_, by omega⟩
               (try dsimp only)
               rw [e2, show (((k + 1 : Nat)) : Int) + 1 = (k : Int) + 1 + 1 by omega]
               exact Le.auto)
            | trace_state
        · have ek : (m - 1).toNat = k := by omega
          rw [ek] at e1
          have em : (k : Int) + 1 = m := by omega
          rw [em] at l2 r2
          rw [em]
          have e5 : n - B - mdays z k = d - 1 := by omega
          rw [e5]
          generalize last z m = X1 at *
          repeat' (first | ((first | apply U_); (first | exact QX.B TYok | exact QCd (l2)); exact rfl) | refine SC ?_ | (refine W.condA (ht := fun hb => ?_) (hf := fun hb => ?_) <;> (try simp at hb) <;> (try (exfalso; omega))))
          all_goals first
            | (refine Fin.ret ?_
               refine ResL.cons rfl rfl PSub.rfl' (ResL.cons rfl rfl PSub.rfl' (ResL.cons rfl rfl (PSub.of_eq ?_) (ResL.cons rfl rfl PSub.rfl' ResL.nil)))
               congr 2
               omega)
            | trace_state
end
end Go.Proofs.Ythddpdfljjhfeaa
end
section
set_option linter.unusedVariables false
set_option linter.unusedSimpArgs false
set_option maxHeartbeats 8000000
namespace Go.Proofs.Ythddpdfljjhfeaa
open Lf Go
attribute [local irreducible] PureOp EffOp Ev RG W Then InBlock Lf.Fin nth App InitE Pick EvL EvD EvP EvR ResL Lf.Lex SubR SubBR FinO FinM ResM ResD FinS val pw digs trimL
section
open CalLaw
/-- some months later -/
theorem addm_ok (n y m d k : Int) (h : 0 ≤ n ∧ n ≤ 200000) (hy : 1900 ≤ y ∧ y ≤ 2447) (hd : IsDate y m d) (hn : num y m d = n) (hk : 0 ≤ k ∧ k ≤ 255) : ACalls Try.prog 23 [cI n, cI k] (.tup [cI (dofV ((12 * y + m - 1 + k) / 12) ((12 * y + m - 1 + k) % 12 + 1) (min d (last ((12 * y + m - 1 + k) / 12) ((12 * y + m - 1 + k) % 12 + 1)))), cI (dofE ((12 * y + m - 1 + k) / 12) ((12 * y + m - 1 + k) % 12 + 1) (min d (last ((12 * y + m - 1 + k) / 12) ((12 * y + m - 1 + k) % 12 + 1))))]) := by
  have p1 := parts_ok n y m d h hy hd hn
  have m1 := hd.m1
  have m12 := hd.m12
  generalize hM : 12 * y + m - 1 + k = M
  have l1 := last_ok (M / 12) (M % 12 + 1)
  have o1 := dof_ok (M / 12) (M % 12 + 1) (min d (last (M / 12) (M % 12 + 1)))
  generalize last (M / 12) (M % 12 + 1) = L at *
  generalize dofV (M / 12) (M % 12 + 1) (min d L) = V at *
  generalize dofE (M / 12) (M % 12 + 1) (min d L) = E at *
  subst hM
  refine ACalls.of_W (qs := [cI V, cI E]) [4, 5] 50 Try.func23 (by kernel_rfl) rfl rfl rfl fun G => ?_
  refine W.initA (hw := ?_)
  repeat' (first | ((first | apply U_ | (apply Ug_; exact rfl; exact rfl) | (apply Ugq_; exact rfl; exact rfl)); (first | exact QX.B TYok | exact QX.Num TYok | exact QX.Ext TYok | exact QCd (p1) | exact QCd (l1) | exact QCd (o1)); exact rfl) | refine SC ?_ | refine SG ?_ | (refine W.condA (ht := fun hb => ?_) (hf := fun hb => ?_) <;> (try simp at hb) <;> (try (exfalso; omega))))
  all_goals first
    | exact Fin.ret ResL.auto
    | trace_state
end
end Go.Proofs.Ythddpdfljjhfeaa
end
section
set_option linter.unusedVariables false
set_option linter.unusedSimpArgs false
set_option maxHeartbeats 8000000
namespace Go.Proofs.Ythddpdfljjhfeaa
open Lf Go
attribute [local irreducible] PureOp EffOp Ev RG W Then InBlock Lf.Fin nth App InitE Pick EvL EvD EvP EvR ResL Lf.Lex SubR SubBR FinO FinM ResM ResD FinS val pw digs trimL
section
abbrev fB (s : Int) (l : List Int) (s' : Int) (l' : List Int) : PV := .agg [.int .i64 s, .sl (l.map Lf.encI), .int .i64 s', .sl (l'.map Lf.encI)]
abbrev zF2 (p q : Int) : PV := fB (sgn p) (digs (mag p)) (sgn q) (digs (mag q))
abbrev zF (r : Rat) : PV := zF2 r.num r.den
abbrev zF0 : PV := fB 0 [] 0 []
theorem zeroSubF : PSub (.agg [.int .i64 0, .slnil, .int .i64 0, .slnil]) zF0 := ⟨.refl _, .nil, .refl _, .nil, trivial⟩
def okF (r : Rat) : Prop := okZ r.num ∧ okZ r.den
theorem den_pos (r : Rat) : (0 : Int) < r.den := by have := r.den_nz; omega
theorem den_ne (r : Rat) : (r.den : Int) ≠ 0 := by have := r.den_nz; omega
theorem quo_pos' {x g : Int} (h : 0 < g) : quoZ x g = x / g := if_pos h
theorem gcd_pos {x y : Int} (hy : y ≠ 0) : 0 < gcdZ x y := by
  unfold gcdZ
  have : Int.gcd x y ≠ 0 := fun h => hy (Int.gcd_eq_zero_iff.1 h).2
  omega
theorem divInt_pos {x y : Int} (hy : 0 < y) : (Rat.divInt x y).num = quoZ x (gcdZ x y) ∧ ((Rat.divInt x y).den : Int) = quoZ y (gcdZ x y) := by
  have hg := gcd_pos (x := x) (show y ≠ 0 by omega)
  rw [quo_pos' hg, quo_pos' hg, Rat.num_divInt, Rat.den_divInt, if_neg (by omega), Int.sign_eq_one_of_pos hy, Int.one_mul, Int.gcd_comm]
  refine ⟨rfl, ?_⟩
  unfold gcdZ
  rw [Int.natCast_ediv]
  congr 1
  omega
theorem divInt_flip (x y : Int) : Rat.divInt (-x) (-y) = Rat.divInt x y := by
  by_cases hy : y = 0
  · subst hy
    rw [Int.neg_zero, Rat.divInt_zero, Rat.divInt_zero]
  · have := Rat.divInt_mul_left (n := x) (d := y) (a := -1) (by decide)
    rw [← this]
    congr 1 <;> omega
theorem num_den_gcd (r : Rat) : gcdZ r.num r.den = 1 := by
  have := r.reduced
  unfold gcdZ
  exact congrArg (fun n : Nat => (n : Int)) this
theorem rat_of {x y : Int} (hy : 0 < y) (hg : gcdZ x y = 1) : (Rat.divInt x y).num = x ∧ ((Rat.divInt x y).den : Int) = y := by
  obtain ⟨h1, h2⟩ := divInt_pos (x := x) hy
  rw [hg] at h1 h2
  rw [h1, h2, quo_pos' (by decide), quo_pos' (by decide)]
  omega
theorem rat_add (a b : Rat) : a + b = Rat.divInt (a.num * b.den + b.num * a.den) (a.den * b.den) := by
  have := Rat.divInt_add_divInt a.num b.num (d₁ := a.den) (d₂ := b.den) (den_ne a) (den_ne b)
  rwa [Rat.num_divInt_den, Rat.num_divInt_den] at this
theorem rat_mul (a b : Rat) : a * b = Rat.divInt (a.num * b.num) (a.den * b.den) := by
  have := Rat.divInt_mul_divInt a.num b.num (d₁ := a.den) (d₂ := b.den)
  rwa [Rat.num_divInt_den, Rat.num_divInt_den] at this
theorem quo_le {x g : Int} (hg : 0 < g) : mag (quoZ x g) ≤ mag x := by
  rw [quo_pos' hg]
  have h1 := sgn_cases x
  have h2 := sgn_cases (x / g)
  have h3 : x = g * (x / g) + x % g := (Int.mul_ediv_add_emod x g).symm
  have h4 := Int.emod_nonneg x (show g ≠ 0 by omega)
  have h5 := Int.emod_lt_of_pos x hg
  by_cases hx : 0 ≤ x
  · have := Int.ediv_nonneg hx (show 0 ≤ g by omega)
    have := Int.ediv_le_self g hx
    omega
  · have h6 : x / g < 0 := Int.ediv_neg_of_neg_of_pos (by omega) hg
    have h7 : x ≤ x / g := by
      rw [Int.le_ediv_iff_mul_le hg]
      have := Int.mul_le_mul_of_nonneg_left (show 1 ≤ g by omega) (show 0 ≤ -x by omega)
      have e : x * g = -(-x * g) := by grind
      omega
    omega
/-- what a fraction of two numbers is not greater than -/
theorem divInt_le {x y : Int} (hy : y ≠ 0) : mag (Rat.divInt x y).num ≤ mag x ∧ mag (Rat.divInt x y).den ≤ mag y := by
  by_cases h : 0 < y
  · obtain ⟨h1, h2⟩ := divInt_pos (x := x) h
    have hg := gcd_pos (x := x) hy
    rw [h1, h2]
    exact ⟨quo_le hg, quo_le hg⟩
  · obtain ⟨h1, h2⟩ := divInt_pos (x := -x) (y := -y) (by omega)
    rw [divInt_flip] at h1 h2
    have hg := gcd_pos (x := -x) (y := -y) (by omega)
    rw [h1, h2]
    have e1 : mag (-x) = mag x := by have := sgn_cases x; have := sgn_cases (-x); omega
    have e2 : mag (-y) = mag y := by have := sgn_cases y; have := sgn_cases (-y); omega
    have := quo_le (x := -x) hg
    have := quo_le (x := -y) hg
    omega
theorem okF_of {x y : Int} (hx : okZ x) (hy : okZ y) (h0 : y ≠ 0) : okF (Rat.divInt x y) := by
  obtain ⟨h1, h2⟩ := divInt_le (x := x) h0
  unfold okF okZ at *
  omega
attribute [local irreducible] sgn mag gcdZ quoZ remZ fullZ fullE
def rightFB (s : Int) (l : List Int) (s' : Int) (l' : List Int) : Bool := rightB s l && rightB s' l' && decide (s' = 1) && decide (gcdZ (s * val l) (val l') = 1)
theorem one_ok (x : Int) (hx : okZ x) : ACalls Try.prog 55 [zB x] (.pv (cB (decide (x = 1)))) := by
  have h1 := intZ_ok x hx
  by_cases hi : i64B x
  · rw [show intV x = x from if_pos hi, decide_eq_true hi] at h1
    refine ACalls.of_W (qs := [cB (decide (x = 1))]) [2] 15 Try.func55 (by kernel_rfl) rfl rfl rfl fun G => ?_
    refine W.initA (hw := ?_)
    repeat' (first | ((first | apply U_ | (apply Ug_; exact rfl; exact rfl) | (apply Ugq_; exact rfl; exact rfl)); (first | exact QX.B TYok | exact QX.Ext TYok | exact QCd (h1)); exact rfl) | refine SX.Box TYok (h := ?_) | refine SC ?_ | (apply S_isnil TYok; exact rfl; exact rfl; exact rfl; exact Ev.auto; intro bn hnil) | refine SG ?_ | (refine W.condA (ht := fun hb => ?_) (hf := fun hb => ?_) <;> (try simp at hb) <;> (try (exfalso; omega))))
    all_goals exact Fin.ret ResL.auto
  · rw [show intV x = 0 from if_neg hi, decide_eq_false hi] at h1
    have e : ¬ x = 1 := fun h => hi (by unfold i64B; omega)
    rw [decide_eq_false e]
    refine ACalls.of_W (qs := [cB false]) [2] 15 Try.func55 (by kernel_rfl) rfl rfl rfl fun G => ?_
    refine W.initA (hw := ?_)
    repeat' (first | ((first | apply U_ | (apply Ug_; exact rfl; exact rfl) | (apply Ugq_; exact rfl; exact rfl)); (first | exact QX.B TYok | exact QX.Ext TYok | exact QCd (h1)); exact rfl) | refine SX.Box TYok (h := ?_) | refine SC ?_ | (apply S_isnil TYok; exact rfl; exact rfl; exact rfl; exact Ev.auto; intro bn hnil) | refine SG ?_ | (refine W.condA (ht := fun hb => ?_) (hf := fun hb => ?_) <;> (try simp at hb) <;> (try (exfalso; omega))))
    all_goals exact Fin.ret ResL.auto
theorem fright_ok (s : Int) (l : List Int) (s' : Int) (l' : List Int) (hl : l.length ≤ 9223372036854775807) (hl' : l'.length ≤ 9223372036854775807) : ACalls Try.prog 24 [fB s l s' l'] (.pv (cB (rightFB s l s' l'))) := by
  have r1 := rightL_ok s l hl
  have r2 := rightL_ok s' l' hl'
  by_cases hw : (rightB s l = true ∧ rightB s' l' = true) ∧ s' = 1
  case neg =>
    have e : rightFB s l s' l' = false := by
      unfold rightFB
      cases h1 : rightB s l <;> cases h2 : rightB s' l' <;> simp_all
    rw [e]
    generalize rightB s l = b1 at r1 hw
    generalize rightB s' l' = b2 at r2 hw
    refine ACalls.of_W (qs := [cB false]) [2] 35 Try.func24 (by kernel_rfl) rfl rfl rfl fun G => ?_
    refine W.initA (hw := ?_)
    repeat' (first | ((first | apply U_ | (apply Ug_; exact rfl; exact rfl) | (apply Ugq_; exact rfl; exact rfl)); (first | exact QX.B TYok | exact QX.Ext TYok | exact QCd (r1) | exact QCd (r2)); exact rfl) | refine SX.Alloc TYok (h := ?_) | refine SX.Store TYok (h := ?_) | refine SX.Box TYok (h := ?_) | refine SC ?_ | (apply S_isnil TYok; exact rfl; exact rfl; exact rfl; exact Ev.auto; intro bn hnil) | refine SG ?_ | (refine W.condA (ht := fun hb => ?_) (hf := fun hb => ?_) <;> (try simp at hb) <;> (try (exfalso; first | exact hw hb | omega))))
    all_goals exact Fin.ret ResL.auto
  obtain ⟨⟨q1, q2⟩, h1⟩ := hw
  have e : rightFB s l s' l' = decide (gcdZ (s * val l) (val l') = 1) := by unfold rightFB; rw [q1, q2, decide_eq_true h1]; simp
  rw [e]
  rw [q1] at r1
  rw [q2] at r2
  obtain ⟨x, ox, rfl, rfl⟩ := right_num q1
  obtain ⟨y, oy, rfl, rfl⟩ := right_num q2
  have cy := sgn_cases y
  have ey : val (digs (mag y)) = y := by rw [val_mag]; omega
  have ex : sgn x * val (digs (mag x)) = x := by rw [val_mag, sgn_mag]
  rw [ex, ey]
  have g1 := gcdZ_ok x y ox oy
  have o1 := one_ok _ (gcd_lt ox oy)
  generalize gcdZ x y = g at *
  refine ACalls.of_W (qs := [cB (decide (g = 1))]) [2] 35 Try.func24 (by kernel_rfl) rfl rfl rfl fun G => ?_
  refine W.initA (hw := ?_)
  repeat' (first | ((first | apply U_ | (apply Ug_; exact rfl; exact rfl) | (apply Ugq_; exact rfl; exact rfl)); (first | exact QX.B TYok | exact QX.Ext TYok | exact QCd (r1) | exact QCd (r2) | exact QCd (g1) | exact QCd (o1)); exact rfl) | refine SX.Alloc TYok (h := ?_) | refine SX.Store TYok (h := ?_) | refine SX.Box TYok (h := ?_) | refine SC ?_ | (apply S_isnil TYok; exact rfl; exact rfl; exact rfl; exact Ev.auto; intro bn hnil) | refine SG ?_ | (refine W.condA (ht := fun hb => ?_) (hf := fun hb => ?_) <;> (try simp at hb) <;> (try (exfalso; omega))))
  all_goals exact Fin.ret ResL.auto
theorem fright_yes (r : Rat) (h : okF r) : ACalls Try.prog 24 [zF r] (.pv (cB true)) := by
  have hp := den_pos r
  have := fright_ok (sgn r.num) (digs (mag r.num)) (sgn r.den) (digs (mag r.den)) (by have := num_len h.1; omega) (by have := num_len h.2; omega)
  have e : rightFB (sgn r.num) (digs (mag r.num)) (sgn r.den) (digs (mag r.den)) = true := by
    unfold rightFB
    have c := sgn_cases r.den
    rw [num_right h.1, num_right h.2, decide_eq_true (show sgn r.den = 1 by omega), val_mag, val_mag, sgn_mag, show mag r.den = r.den by omega, num_den_gcd]; rfl
  rwa [e] at this
theorem new_pos (x y : Int) (hx : okZ x) (hy : okZ y) (h0 : 0 < y) : ACalls Try.prog 61 [zB x, zB y] (.tup [zF2 (quoZ x (gcdZ x y)) (quoZ y (gcdZ x y)), cI 0]) := by
  have r1 := right_yes hx
  have r2 := right_yes hy
  have cy := sgn_cases y
  have hg := gcd_pos (x := x) (show y ≠ 0 by omega)
  have og := gcd_lt hx hy
  have g1 := gcdZ_ok x y hx hy
  have d1 := divZ_ok x (gcdZ x y) hx og (by omega)
  have d2 := divZ_ok y (gcdZ x y) hy og (by omega)
  generalize quoZ x (gcdZ x y) = a at *
  generalize quoZ y (gcdZ x y) = b at *
  generalize gcdZ x y = g at *
  refine ACalls.of_M TYok (qs := [zF2 a b, cI 0]) [.cell 4 26, .tmp 5] 60 Try.func61 (by kernel_rfl) rfl rfl rfl fun G => ?_
  refine W.initA (hw := ?_)
  repeat' (first | ((first | apply U_ | (apply Ug_; exact rfl; exact rfl) | (apply Ugq_; exact rfl; exact rfl) | apply Lex.u | (apply Lex.g; exact rfl; exact rfl) | (apply Lex.gq; exact rfl; exact rfl)); (first | exact QX.B TYok | exact QX.Ext TYok | exact QX.Build TYok | exact QCd (r1) | exact QCd (r2) | exact QCd (g1) | exact QCd (d1) | exact QCd (d2)); exact rfl) | refine SX.Alloc TYok (h := ?_) | refine SX.Store TYok (h := ?_) | refine SX.Box TYok (h := ?_) | refine SC ?_ | (apply S_isnil TYok; exact rfl; exact rfl; exact rfl; exact Ev.auto; intro bn hnil) | refine SG ?_ | (apply W.draw2 (id := 6) [0, 1, 0, 7, 15, 31] [[2], [33], [3], [35]] 4 [(33, 4), (34, 8589934592), (35, 8), (36, 34359738368)] mixed (by kernel_rfl) rfl rfl) | (refine W.condA (ht := fun hb => ?_) (hf := fun hb => ?_) <;> (try simp at hb) <;> (try (exfalso; omega))))
  all_goals exact FinM.ret ResM.auto
end
section
attribute [local irreducible] sgn mag gcdZ quoZ remZ fullZ fullE
theorem full_no {z : Int} (h : ¬ okZ z) : fullZ z = 0 ∧ fullE z = 6 := by
  unfold fullZ fullE
  exact ⟨if_neg h, if_neg h⟩
theorem new_neg (x y : Int) (hx : okZ x) (hy : okZ y) (h0 : y < 0) : ACalls Try.prog 61 [zB x, zB y] (.tup [zF2 (quoZ (-x) (gcdZ (-x) (-y))) (quoZ (-y) (gcdZ (-x) (-y))), cI 0]) := by
  have r1 := right_yes hx
  have r2 := right_yes hy
  have cy := sgn_cases y
  have n1 := neg_ok x hx
  have n2 := neg_ok y hy
  have ox := okZ_neg hx
  have oy := okZ_neg hy
  have hg := gcd_pos (x := -x) (show -y ≠ 0 by omega)
  have og := gcd_lt ox oy
  have g1 := gcdZ_ok (-x) (-y) ox oy
  have d1 := divZ_ok (-x) (gcdZ (-x) (-y)) ox og (by omega)
  have d2 := divZ_ok (-y) (gcdZ (-x) (-y)) oy og (by omega)
  generalize quoZ (-x) (gcdZ (-x) (-y)) = a at *
  generalize quoZ (-y) (gcdZ (-x) (-y)) = b at *
  generalize gcdZ (-x) (-y) = g at *
  refine ACalls.of_M TYok (qs := [zF2 a b, cI 0]) [.cell 4 26, .tmp 5] 60 Try.func61 (by kernel_rfl) rfl rfl rfl fun G => ?_
  refine W.initA (hw := ?_)
  repeat' (first | ((first | apply U_ | (apply Ug_; exact rfl; exact rfl) | (apply Ugq_; exact rfl; exact rfl) | apply Lex.u | (apply Lex.g; exact rfl; exact rfl) | (apply Lex.gq; exact rfl; exact rfl)); (first | exact QX.B TYok | exact QX.Ext TYok | exact QX.Build TYok | exact QCd (r1) | exact QCd (r2) | exact QCd (n1) | exact QCd (n2) | exact QCd (g1) | exact QCd (d1) | exact QCd (d2)); exact rfl) | refine SX.Alloc TYok (h := ?_) | refine SX.Store TYok (h := ?_) | refine SX.Box TYok (h := ?_) | refine SC ?_ | (apply S_isnil TYok; exact rfl; exact rfl; exact rfl; exact Ev.auto; intro bn hnil) | refine SG ?_ | (apply W.draw2 (id := 6) [0, 1, 0, 7, 15, 31] [[2], [33], [3], [35]] 4 [(33, 4), (34, 8589934592), (35, 8), (36, 34359738368)] mixed (by kernel_rfl) rfl rfl) | (refine W.condA (ht := fun hb => ?_) (hf := fun hb => ?_) <;> (try simp at hb) <;> (try (exfalso; omega))))
  all_goals exact FinM.ret ResM.auto
theorem new_ok (x y : Int) (hx : okZ x) (hy : okZ y) (h0 : y ≠ 0) : ACalls Try.prog 61 [zB x, zB y] (.tup [zF (Rat.divInt x y), cI 0]) := by
  by_cases h : 0 < y
  · obtain ⟨e1, e2⟩ := divInt_pos (x := x) h
    have := new_pos x y hx hy h
    rwa [← e1, ← e2] at this
  · obtain ⟨e1, e2⟩ := divInt_pos (x := -x) (y := -y) (by omega)
    have := new_neg x y hx hy (by omega)
    rw [← e1, ← e2, divInt_flip] at this
    exact this
def sumOk (a b c d : Int) : Prop := okZ (a * b) ∧ okZ (c * d) ∧ okZ (a * b + c * d)
theorem sum_yes (a b c d : Int) (ha : okZ a) (hb : okZ b) (hc : okZ c) (hd : okZ d) (h : sumOk a b c d) : ACalls Try.prog 46 [zB a, zB b, zB c, zB d] (.tup [zB (a * b + c * d), cI 0]) := by
  obtain ⟨h1, h2, h3⟩ := h
  have m1 := mulZ_ok a b ha hb
  rw [(full_yes h1).1, (full_yes h1).2] at m1
  have m2 := mulZ_ok c d hc hd
  rw [(full_yes h2).1, (full_yes h2).2] at m2
  have a1 := addZ_ok (a * b) (c * d) h1 h2
  rw [(full_yes h3).1, (full_yes h3).2] at a1
  refine ACalls.of_M TYok (qs := [zB (a * b + c * d), cI 0]) [.cell 8 24, .tmp 9] 38 Try.func46 (by kernel_rfl) rfl rfl rfl fun G => ?_
  refine W.initA (hw := ?_)
  repeat' (first | ((first | apply U_); (first | exact QX.B TYok | exact QX.Ext TYok | exact QX.Build TYok | exact QCd (m1) | exact QCd (m2) | exact QCd (a1)); exact rfl) | refine SX.Alloc TYok (h := ?_) | refine SX.Store TYok (h := ?_) | refine SX.Box TYok (h := ?_) | refine SC ?_ | (refine W.condA (ht := fun hb => ?_) (hf := fun hb => ?_) <;> (try simp at hb) <;> (try (exfalso; omega))))
  all_goals exact FinM.ret ResM.auto
theorem quot_yes (p q : Int) (hp : okZ p) (hq : okZ q) (h0 : q ≠ 0) : ACalls Try.prog 48 [zB p, cI 0, zB q, cI 0] (.tup [zF (Rat.divInt p q), cI 0]) := by
  have n1 := new_ok p q hp hq h0
  generalize Rat.divInt p q = r at *
  refine ACalls.of_M TYok (qs := [zF r, cI 0]) [.cell 8 26, .tmp 9] 22 Try.func48 (by kernel_rfl) rfl rfl rfl fun G => ?_
  refine W.initA (hw := ?_)
  repeat' (first | ((first | apply U_ | (apply Ug_; exact rfl; exact rfl) | (apply Ugq_; exact rfl; exact rfl)); (first | exact QX.B TYok | exact QX.Ext TYok | exact QX.Build TYok | exact QCd (n1)); exact rfl) | refine SX.Alloc TYok (h := ?_) | refine SX.Store TYok (h := ?_) | refine SX.Box TYok (h := ?_) | refine SC ?_ | refine SG ?_ | (refine W.condA (ht := fun hb => ?_) (hf := fun hb => ?_) <;> (try simp at hb) <;> (try (exfalso; omega))))
  all_goals exact FinM.ret ResM.auto
theorem quot_no (p e q f : Int) (h : e ≠ 0 ∨ f ≠ 0) : ACalls Try.prog 48 [zB p, cI e, zB q, cI f] (.tup [zF0, cI 6]) := by
  refine ACalls.of_M TYok (qs := [zF0, cI 6]) [.cell 8 26, .tmp 9] 22 Try.func48 (by kernel_rfl) rfl rfl rfl fun G => ?_
  refine W.initA (hw := ?_)
  repeat' (first | ((first | apply U_ | (apply Ug_; exact rfl; exact rfl) | (apply Ugq_; exact rfl; exact rfl)); (first | exact QX.B TYok | exact QX.Ext TYok | exact QX.Build TYok); exact rfl) | refine SX.Alloc TYok (h := ?_) | refine SX.Store TYok (h := ?_) | refine SX.Box TYok (h := ?_) | refine SC ?_ | refine SG ?_ | (refine W.condA (ht := fun hb => ?_) (hf := fun hb => ?_) <;> (try simp at hb) <;> (try (exfalso; omega))))
  all_goals exact FinM.ret (ResM.cell rfl rfl rfl rfl zeroSubF (ResM.tmp rfl rfl PSub.rfl' ResM.nil))
def addOk (a b : Rat) : Prop := sumOk a.num b.den b.num a.den ∧ okZ (a.den * b.den)
theorem mul_ne {x y : Int} (hx : x ≠ 0) (hy : y ≠ 0) : x * y ≠ 0 := fun h => (Int.mul_eq_zero.1 h).elim hx hy
theorem add_yes (a b : Rat) (ha : okF a) (hb : okF b) (h : addOk a b) : ACalls Try.prog 19 [zF a, zF b] (.tup [zF (a + b), cI 0]) := by
  obtain ⟨h1, h2⟩ := h
  have r1 := fright_yes a ha
  have r2 := fright_yes b hb
  have s1 := sum_yes a.num b.den b.num a.den ha.1 hb.2 hb.1 ha.2 h1
  have m1 := mulZ_ok a.den b.den ha.2 hb.2
  rw [(full_yes h2).1, (full_yes h2).2] at m1
  have q1 := quot_yes _ _ h1.2.2 h2 (mul_ne (den_ne a) (den_ne b))
  rw [rat_add]
  generalize Rat.divInt (a.num * b.den + b.num * a.den) (a.den * b.den) = r at *
  refine ACalls.of_M TYok (qs := [zF r, cI 0]) [.cell 4 26, .tmp 5] 46 Try.func19 (by kernel_rfl) rfl rfl rfl fun G => ?_
  refine W.initA (hw := ?_)
  repeat' (first | ((first | apply U_ | (apply Ug_; exact rfl; exact rfl) | (apply Ugq_; exact rfl; exact rfl)); (first | exact QX.B TYok | exact QX.Ext TYok | exact QX.Build TYok | exact QCd (r1) | exact QCd (r2) | exact QCd (s1) | exact QCd (m1) | exact QCd (q1)); exact rfl) | refine SX.Alloc TYok (h := ?_) | refine SX.Store TYok (h := ?_) | refine SX.Box TYok (h := ?_) | refine SC ?_ | refine SG ?_ | (refine W.condA (ht := fun hb => ?_) (hf := fun hb => ?_) <;> (try simp at hb) <;> (try (exfalso; omega))))
  all_goals exact FinM.ret ResM.auto
def mulOk (a b : Rat) : Prop := okZ (a.num * b.num) ∧ okZ (a.den * b.den)
theorem fmul_yes (a b : Rat) (ha : okF a) (hb : okF b) (h : mulOk a b) : ACalls Try.prog 39 [zF a, zF b] (.tup [zF (a * b), cI 0]) := by
  obtain ⟨h1, h2⟩ := h
  have r1 := fright_yes a ha
  have r2 := fright_yes b hb
  have m1 := mulZ_ok a.num b.num ha.1 hb.1
  rw [(full_yes h1).1, (full_yes h1).2] at m1
  have m2 := mulZ_ok a.den b.den ha.2 hb.2
  rw [(full_yes h2).1, (full_yes h2).2] at m2
  have q1 := quot_yes _ _ h1 h2 (mul_ne (den_ne a) (den_ne b))
  rw [rat_mul]
  generalize Rat.divInt (a.num * b.num) (a.den * b.den) = r at *
  refine ACalls.of_M TYok (qs := [zF r, cI 0]) [.cell 4 26, .tmp 5] 42 Try.func39 (by kernel_rfl) rfl rfl rfl fun G => ?_
  refine W.initA (hw := ?_)
  repeat' (first | ((first | apply U_ | (apply Ug_; exact rfl; exact rfl) | (apply Ugq_; exact rfl; exact rfl)); (first | exact QX.B TYok | exact QX.Ext TYok | exact QX.Build TYok | exact QCd (r1) | exact QCd (r2) | exact QCd (m1) | exact QCd (m2) | exact QCd (q1)); exact rfl) | refine SX.Alloc TYok (h := ?_) | refine SX.Store TYok (h := ?_) | refine SX.Box TYok (h := ?_) | refine SC ?_ | refine SG ?_ | (refine W.condA (ht := fun hb => ?_) (hf := fun hb => ?_) <;> (try simp at hb) <;> (try (exfalso; omega))))
  all_goals exact FinM.ret ResM.auto
theorem floor_ok (r : Rat) (h : okF r) : ACalls Try.prog 43 [zF r] (.pv (zB (quoZ r.num r.den))) := by
  have r1 := fright_yes r h
  have d1 := divZ_ok r.num r.den h.1 h.2 (den_ne r)
  refine ACalls.of_M TYok (qs := [zB (quoZ r.num r.den)]) [.cell 2 24] 20 Try.func43 (by kernel_rfl) rfl rfl rfl fun G => ?_
  refine W.initA (hw := ?_)
  repeat' (first | ((first | apply U_); (first | exact QX.B TYok | exact QX.Ext TYok | exact QX.Build TYok | exact QCd (r1) | exact QCd (d1)); exact rfl) | refine SX.Alloc TYok (h := ?_) | refine SX.Store TYok (h := ?_) | refine SX.Box TYok (h := ?_) | refine SC ?_ | (refine W.condA (ht := fun hb => ?_) (hf := fun hb => ?_) <;> (try simp at hb) <;> (try (exfalso; omega))))
  all_goals exact FinM.ret ResM.auto
end
end Go.Proofs.Ythddpdfljjhfeaa
end
section
set_option linter.unusedVariables false
set_option linter.unusedSimpArgs false
set_option maxHeartbeats 8000000
namespace Go.Proofs.Ythddpdfljjhfeaa
open Lf Go
attribute [local irreducible] PureOp EffOp Ev RG W Then InBlock Lf.Fin nth App InitE Pick EvL EvD EvP EvR ResL Lf.Lex SubR SubBR FinO FinM ResM ResD FinS val pw digs trimL
theorem cmp_cases (x y : Int) : (cmpI x y = -1 ∧ x < y) ∨ (cmpI x y = 0 ∧ x = y) ∨ (cmpI x y = 1 ∧ y < x) := by
  unfold cmpI
  split
  · exact .inl ⟨rfl, ‹_›⟩
  · split
    · exact .inr (.inr ⟨rfl, ‹_›⟩)
    · exact .inr (.inl ⟨rfl, by omega⟩)
def cmpR (a b : Rat) : Int := cmpI (a.num * b.den) (b.num * a.den)
attribute [local irreducible] sgn mag gcdZ quoZ remZ fullZ fullE
end Go.Proofs.Ythddpdfljjhfeaa
end
section
set_option linter.unusedVariables false
set_option linter.unusedSimpArgs false
set_option maxHeartbeats 8000000
namespace Go.Proofs.Ythddpdfljjhfeaa
open Lf Go
attribute [local irreducible] PureOp EffOp Ev RG W Then InBlock Lf.Fin nth App InitE Pick EvL EvD EvP EvR ResL Lf.Lex SubR SubBR FinO FinM ResM ResD FinS val pw digs trimL
section
theorem sameBig_ok (s s' : Int) (a b : List Int) (hl : a.length ≤ 1000000) (hl' : b.length ≤ 1000000) : ACalls Try.prog 37 [aB s a, aB s' b] (.pv (cB (decide (s = s') && decide (a = b)))) := by
  by_cases h0 : s = s' ∧ a.length = b.length
  case neg =>
    have e : (decide (s = s') && decide (a = b)) = false := by
      rw [Bool.and_eq_false_iff, decide_eq_false_iff_not, decide_eq_false_iff_not]
      by_cases hs : s = s'
      · exact .inr fun e => h0 ⟨hs, by rw [e]⟩
      · exact .inl hs
    rw [e]
    refine ACalls.of_W (qs := [cB false]) [4] 38 Try.func37 (by kernel_rfl) rfl rfl rfl fun G => ?_
    refine W.initA (hw := ?_)
    repeat' (first | (exfalso; omega) | ((first | apply U_ | (apply Ug_; exact rfl; exact rfl) | (apply Ugq_; exact rfl; exact rfl) | apply Lex.u | (apply Lex.g; exact rfl; exact rfl) | (apply Lex.gq; exact rfl; exact rfl)); (first | exact QX.B TYok | exact QX.Len TYok | exact QX.Idx TYok); exact rfl) | refine SX.Box TYok (h := ?_) | refine SC ?_ | refine SG ?_ | (apply W.draw2 (id := 6) [0, 1, 0, 7, 15, 0, 32, 0, 224, 480, 1023] [[2], [27], [5], [28, 29], [30], [3], [32], [5], [33, 34], [35], [31, 36]] 11 [(27, 4), (28, 134217728), (29, 32), (30, 805306368), (31, 1073741824), (32, 8), (33, 4294967296), (34, 32), (35, 25769803776), (36, 34359738368), (37, 70866960384)] mixed (by kernel_rfl) rfl rfl) | (refine W.condA (ht := fun hb => ?_) (hf := fun hb => ?_) <;> (try simp at hb) <;> (try (exfalso; omega))))
    exact Fin.ret ResL.auto
  obtain ⟨rfl, hab⟩ := h0
  rw [decide_eq_true rfl, Bool.true_and]
  refine ACalls.of_W (qs := [cB (decide (a = b))]) [4] 38 Try.func37 (by kernel_rfl) rfl rfl rfl fun G => ?_
  refine W.initA (hw := ?_)
  repeat' (first | ((first | apply U_ | (apply Ug_; exact rfl; exact rfl) | (apply Ugq_; exact rfl; exact rfl) | apply Lex.u | (apply Lex.g; exact rfl; exact rfl) | (apply Lex.gq; exact rfl; exact rfl)); (first | exact QX.B TYok | exact QX.Len TYok | exact QX.Idx TYok); exact rfl) | refine SX.Box TYok (h := ?_) | refine SC ?_ | refine SG ?_ | (apply W.draw2 (id := 6) [0, 1, 0, 7, 15, 0, 32, 0, 224, 480, 1023] [[2], [27], [5], [28, 29], [30], [3], [32], [5], [33, 34], [35], [31, 36]] 11 [(27, 4), (28, 134217728), (29, 32), (30, 805306368), (31, 1073741824), (32, 8), (33, 4294967296), (34, 32), (35, 25769803776), (36, 34359738368), (37, 70866960384)] mixed (by kernel_rfl) rfl rfl) | (refine W.condA (ht := fun hb => ?_) (hf := fun hb => ?_) <;> (try simp at hb) <;> (try (exfalso; omega))))
  apply W.loopP (σ := Nat) 38 [2, 3] (fun k => k ≤ a.length ∧ a.take k = b.take k) (fun k => [(5, vI k)]) (fun _ => [(2, ⟨24, 2, [[.int .i64 s, .sl (a.map Lf.encI)]]⟩), (3, ⟨24, 2, [[.int .i64 s, .sl (b.map Lf.encI)]]⟩)]) (fun k => a.length - k) (0)
  case hp => repeat (first | exact Pick.nil | apply Pick.cons rfl)
  case h0 =>
    refine ⟨by simp, ?_⟩
    exact Le.auto
  case round =>
    rintro k ⟨g1, g2⟩
    apply W.norm (by repeat (first | exact App.nil | apply App.cons))
    repeat' (first | ((first | apply U_ | (apply Ug_; exact rfl; exact rfl) | (apply Ugq_; exact rfl; exact rfl) | apply Lex.u | (apply Lex.g; exact rfl; exact rfl) | (apply Lex.gq; exact rfl; exact rfl)); (first | exact QX.B TYok | exact QX.Len TYok | exact QX.Idx TYok); exact rfl) | refine SX.Box TYok (h := ?_) | refine SC ?_ | refine SG ?_ | (apply W.draw2 (id := 6) [0, 1, 0, 7, 15, 0, 32, 0, 224, 480, 1023] [[2], [27], [5], [28, 29], [30], [3], [32], [5], [33, 34], [35], [31, 36]] 11 [(27, 4), (28, 134217728), (29, 32), (30, 805306368), (31, 1073741824), (32, 8), (33, 4294967296), (34, 32), (35, 25769803776), (36, 34359738368), (37, 70866960384)] mixed (by kernel_rfl) rfl rfl) | (refine W.condA (ht := fun hb => ?_) (hf := fun hb => ?_) <;> (try simp at hb) <;> (try (exfalso; omega))))
    · rw [decide_eq_false (fun e => by subst e; omega)]
      exact Fin.ret ResL.auto
    · refine ⟨k + 1, ⟨by omega, ?_⟩, ?_, by omega⟩
      · rw [take_nth (by omega), take_nth (by omega), g2, hb]
      · exact Le.auto
    · obtain rfl : k = a.length := by omega
      rw [List.take_length, hab, List.take_length] at g2
      rw [decide_eq_true g2]
      exact Fin.ret ResL.auto
theorem sameBigZ_ok (x y : Int) (hx : okZ x) (hy : okZ y) : ACalls Try.prog 37 [zB x, zB y] (.pv (cB (decide (x = y)))) := by
  have h := sameBig_ok (sgn x) (sgn y) (digs (mag x)) (digs (mag y)) (by have := num_len hx; omega) (by have := num_len hy; omega)
  rw [show (decide (sgn x = sgn y) && decide (digs (mag x) = digs (mag y))) = decide (x = y) by
    rw [Bool.eq_iff_iff, Bool.and_eq_true, decide_eq_true_iff, decide_eq_true_iff, decide_eq_true_iff]
    exact ⟨fun h => num_inj h.1 h.2, fun h => by rw [h]; exact ⟨rfl, rfl⟩⟩] at h
  exact h
theorem same_frac (a b : Rat) : (decide (a.num = b.num) && decide ((a.den : Int) = b.den)) = decide (a = b) := by
  rw [← Bool.decide_and]
  exact decide_eq_decide.2 ⟨fun h => Rat.ext h.1 (by omega), fun h => by subst h; exact ⟨rfl, rfl⟩⟩
attribute [local irreducible] sgn mag gcdZ quoZ remZ fullZ fullE
theorem same_ok (a b : Rat) (ha : okF a) (hB : okF b) : ACalls Try.prog 14 [zF a, zF b] (.pv (cB (decide (a = b)))) := by
  have s1 := sameBigZ_ok a.num b.num ha.1 hB.1
  have s2 := sameBigZ_ok a.den b.den ha.2 hB.2
  rw [← same_frac]
  refine ACalls.of_W (qs := [cB (decide (a.num = b.num) && decide ((a.den : Int) = b.den))]) [4] 17 Try.func14 (by kernel_rfl) rfl rfl rfl fun G => ?_
  refine W.initA (hw := ?_)
  repeat' (first | ((first | apply U_ | (apply Ug_; exact rfl; exact rfl) | (apply Ugq_; exact rfl; exact rfl)); (first | exact QX.B TYok | exact QCd (s1) | exact QCd (s2)); exact rfl) | refine SX.Box TYok (h := ?_) | refine SC ?_ | refine SG ?_ | (refine W.condA (ht := fun hb => ?_) (hf := fun hb => ?_) <;> (try simp at hb) <;> (try (exfalso; omega))))
  all_goals exact Fin.ret ResL.auto
theorem Of_ok (p q : Int) (hp : i64B p) (hq : i64B q) (h0 : q ≠ 0) : ACalls Try.prog 32 [cI p, cI q] (.tup [zF (Rat.divInt p q), cI 0]) := by
  have z1 := ofZ_ok p hp
  have z2 := ofZ_ok q hq
  have n1 := new_ok p q (i64_ok hp) (i64_ok hq) h0
  generalize Rat.divInt p q = r at *
  refine ACalls.of_M TYok (qs := [zF r, cI 0]) [.cell 4 26, .tmp 5] 13 Try.func32 (by kernel_rfl) rfl rfl rfl fun G => ?_
  refine W.initA (hw := ?_)
  repeat' (first | ((first | apply U_); (first | exact QX.B TYok | exact QX.Ext TYok | exact QCd (z1) | exact QCd (z2) | exact QCd (n1)); exact rfl) | refine SX.Alloc TYok (h := ?_) | refine SX.Store TYok (h := ?_) | refine SC ?_ | (refine W.condA (ht := fun hb => ?_) (hf := fun hb => ?_) <;> (try simp at hb) <;> (try (exfalso; omega))))
  all_goals exact FinM.ret ResM.auto
end
end Go.Proofs.Ythddpdfljjhfeaa
end
section
set_option linter.unusedVariables false
set_option linter.unusedSimpArgs false
set_option maxHeartbeats 8000000
namespace Go.Proofs.Ythddpdfljjhfeaa
open Lf Go
attribute [local irreducible] PureOp EffOp Ev RG W Then InBlock Lf.Fin nth App InitE Pick EvL EvD EvP EvR ResL Lf.Lex SubR SubBR FinO FinM ResM ResD FinS val pw digs trimL
section
attribute [local irreducible] sgn mag gcdZ quoZ remZ fullZ fullE
theorem qnew_pos (x y : Int) (hx : okZ x) (hy : okZ y) (h0 : 0 < y) : ACalls Try.prog 63 [zB x, zB y] (.tup [zF2 (quoZ x (gcdZ x y)) (quoZ y (gcdZ x y)), cI 0]) := by
  have r1 := rright_yes hx
  have r2 := rright_yes hy
  have cy := sgn_cases y
  have hg := gcd_pos (x := x) (show y ≠ 0 by omega)
  have og := gcd_lt hx hy
  have g1 := rgcdZ_ok x y hx hy
  have d1 := rdivZ_ok x (gcdZ x y) hx og (by omega)
  have d2 := rdivZ_ok y (gcdZ x y) hy og (by omega)
  generalize quoZ x (gcdZ x y) = a at *
  generalize quoZ y (gcdZ x y) = b at *
  generalize gcdZ x y = g at *
  refine ACalls.of_M TYok (qs := [zF2 a b, cI 0]) [.cell 4 26, .tmp 5] 57 Try.func63 (by kernel_rfl) rfl rfl rfl fun G => ?_
  refine W.initA (hw := ?_)
  repeat' (first | ((first | apply U_ | (apply Ug_; exact rfl; exact rfl) | (apply Ugq_; exact rfl; exact rfl)); (first | exact QX.B TYok | exact QX.Ext TYok | exact QX.Build TYok | exact QCd (r1) | exact QCd (r2) | exact QCd (g1) | exact QCd (d1) | exact QCd (d2)); exact rfl) | refine SX.Alloc TYok (h := ?_) | refine SX.Store TYok (h := ?_) | refine SX.Box TYok (h := ?_) | refine SC ?_ | (apply S_isnil TYok; exact rfl; exact rfl; exact rfl; exact Ev.auto; intro bn hnil) | refine SG ?_ | (refine W.condA (ht := fun hb => ?_) (hf := fun hb => ?_) <;> (try simp at hb) <;> (try (exfalso; omega))))
  all_goals exact FinM.ret ResM.auto
theorem qnew_neg (x y : Int) (hx : okZ x) (hy : okZ y) (h0 : y < 0) : ACalls Try.prog 63 [zB x, zB y] (.tup [zF2 (quoZ (-x) (gcdZ (-x) (-y))) (quoZ (-y) (gcdZ (-x) (-y))), cI 0]) := by
  have r1 := rright_yes hx
  have r2 := rright_yes hy
  have cy := sgn_cases y
  have n1 := rneg_ok x hx
  have n2 := rneg_ok y hy
  have ox := okZ_neg hx
  have oy := okZ_neg hy
  have hg := gcd_pos (x := -x) (show -y ≠ 0 by omega)
  have og := gcd_lt ox oy
  have g1 := rgcdZ_ok (-x) (-y) ox oy
  have d1 := rdivZ_ok (-x) (gcdZ (-x) (-y)) ox og (by omega)
  have d2 := rdivZ_ok (-y) (gcdZ (-x) (-y)) oy og (by omega)
  generalize quoZ (-x) (gcdZ (-x) (-y)) = a at *
  generalize quoZ (-y) (gcdZ (-x) (-y)) = b at *
  generalize gcdZ (-x) (-y) = g at *
  refine ACalls.of_M TYok (qs := [zF2 a b, cI 0]) [.cell 4 26, .tmp 5] 57 Try.func63 (by kernel_rfl) rfl rfl rfl fun G => ?_
  refine W.initA (hw := ?_)
  repeat' (first | ((first | apply U_ | (apply Ug_; exact rfl; exact rfl) | (apply Ugq_; exact rfl; exact rfl)); (first | exact QX.B TYok | exact QX.Ext TYok | exact QX.Build TYok | exact QCd (r1) | exact QCd (r2) | exact QCd (n1) | exact QCd (n2) | exact QCd (g1) | exact QCd (d1) | exact QCd (d2)); exact rfl) | refine SX.Alloc TYok (h := ?_) | refine SX.Store TYok (h := ?_) | refine SX.Box TYok (h := ?_) | refine SC ?_ | (apply S_isnil TYok; exact rfl; exact rfl; exact rfl; exact Ev.auto; intro bn hnil) | refine SG ?_ | (refine W.condA (ht := fun hb => ?_) (hf := fun hb => ?_) <;> (try simp at hb) <;> (try (exfalso; omega))))
  all_goals exact FinM.ret ResM.auto
theorem qnew_ok (x y : Int) (hx : okZ x) (hy : okZ y) (h0 : y ≠ 0) : ACalls Try.prog 63 [zB x, zB y] (.tup [zF (Rat.divInt x y), cI 0]) := by
  by_cases h : 0 < y
  · obtain ⟨e1, e2⟩ := divInt_pos (x := x) h
    have := qnew_pos x y hx hy h
    rwa [← e1, ← e2] at this
  · obtain ⟨e1, e2⟩ := divInt_pos (x := -x) (y := -y) (by omega)
    have := qnew_neg x y hx hy (by omega)
    rw [← e1, ← e2, divInt_flip] at this
    exact this
theorem qof_ok (p q : Int) (hp : i64B p) (hq : i64B q) (h0 : q ≠ 0) : ACalls Try.prog 34 [cI p, cI q] (.tup [zF (Rat.divInt p q), cI 0]) := by
  have z1 := rof_ok p hp
  have z2 := rof_ok q hq
  have n1 := qnew_ok p q (i64_ok hp) (i64_ok hq) h0
  generalize Rat.divInt p q = r at *
  refine ACalls.of_M TYok (qs := [zF r, cI 0]) [.cell 4 26, .tmp 5] 13 Try.func34 (by kernel_rfl) rfl rfl rfl fun G => ?_
  refine W.initA (hw := ?_)
  repeat' (first | ((first | apply U_); (first | exact QX.B TYok | exact QX.Ext TYok | exact QCd (z1) | exact QCd (z2) | exact QCd (n1)); exact rfl) | refine SX.Alloc TYok (h := ?_) | refine SX.Store TYok (h := ?_) | refine SC ?_ | (refine W.condA (ht := fun hb => ?_) (hf := fun hb => ?_) <;> (try simp at hb) <;> (try (exfalso; omega))))
  all_goals exact FinM.ret ResM.auto
end
section
attribute [local irreducible] sgn mag gcdZ quoZ remZ fullZ fullE
theorem fullE_no {z : Int} (h : ¬ okZ z) : ¬ fullE z = 0 := by rw [(full_no h).2]; decide
end
section
attribute [local irreducible] sgn mag gcdZ quoZ remZ fullZ fullE
theorem fmul_no (a b : Rat) (ha : okF a) (hb : okF b) (h : ¬ mulOk a b) : ACalls Try.prog 39 [zF a, zF b] (.tup [zF0, cI 6]) := by
  have r1 := fright_yes a ha
  have r2 := fright_yes b hb
  have m1 := mulZ_ok a.num b.num ha.1 hb.1
  have m2 := mulZ_ok a.den b.den ha.2 hb.2
  have q1 := quot_no (fullZ (a.num * b.num)) (fullE (a.num * b.num)) (fullZ (a.den * b.den)) (fullE (a.den * b.den)) (by
    unfold mulOk at h
    by_cases k1 : okZ (a.num * b.num)
    · by_cases k2 : okZ (a.den * b.den)
      · exact absurd ⟨k1, k2⟩ h
      · exact .inr (fullE_no k2)
    · exact .inl (fullE_no k1))
  generalize fullZ (a.num * b.num) = w1 at *
  generalize fullE (a.num * b.num) = e1 at *
  generalize fullZ (a.den * b.den) = w2 at *
  generalize fullE (a.den * b.den) = e2 at *
  refine ACalls.of_M TYok (qs := [zF0, cI 6]) [.cell 4 26, .tmp 5] 42 Try.func39 (by kernel_rfl) rfl rfl rfl fun G => ?_
  refine W.initA (hw := ?_)
  repeat' (first | ((first | apply U_ | (apply Ug_; exact rfl; exact rfl) | (apply Ugq_; exact rfl; exact rfl)); (first | exact QX.B TYok | exact QX.Ext TYok | exact QX.Build TYok | exact QCd (r1) | exact QCd (r2) | exact QCd (m1) | exact QCd (m2) | exact QCd (q1)); exact rfl) | refine SX.Alloc TYok (h := ?_) | refine SX.Store TYok (h := ?_) | refine SX.Box TYok (h := ?_) | refine SC ?_ | refine SG ?_ | (refine W.condA (ht := fun hb => ?_) (hf := fun hb => ?_) <;> (try simp at hb) <;> (try (exfalso; omega))))
  all_goals exact FinM.ret ResM.auto
end
end Go.Proofs.Ythddpdfljjhfeaa
end
section
set_option linter.unusedVariables false
set_option linter.unusedSimpArgs false
set_option maxHeartbeats 8000000
namespace Go.Proofs.Ythddpdfljjhfeaa
open Lf Go
attribute [local irreducible] PureOp EffOp Ev RG W Then InBlock Lf.Fin nth App InitE Pick EvL EvD EvP EvR ResL Lf.Lex SubR SubBR FinO FinM ResM ResD FinS val pw digs trimL
section
theorem divInt_one (n : Int) : Rat.divInt n 1 = (n : Rat) := by
  obtain ⟨h1, h2⟩ := rat_of (x := n) (y := 1) (by decide) (by unfold gcdZ; simp)
  refine Rat.ext ?_ ?_
  · rw [h1]; rfl
  · have : ((n : Rat).den : Int) = 1 := rfl
    omega
theorem okF_int {n : Int} (h : i64B n) : okF (n : Rat) := by
  rw [← divInt_one]
  exact okF_of (i64_ok h) (i64_ok (by unfold i64B; omega)) (by omega)
theorem mul_lt {x y : Int} {m n k : Nat} (hk : m + n = k) (hx : -pw m < x ∧ x < pw m) (hy : -pw n < y ∧ y < pw n) : -pw k < x * y ∧ x * y < pw k := by
  subst hk
  have h1 := pw_pos m
  have h2 := pw_pos n
  have h : (x * y).natAbs < (pw (m + n)).natAbs := by
    rw [pw_add, Int.natAbs_mul, Int.natAbs_mul]
    exact Nat.mul_lt_mul'' (by omega) (by omega)
  have := pw_pos (m + n)
  omega
def bd (r : Rat) (n : Nat) : Prop := (-pw n < r.num ∧ r.num < pw n) ∧ (-pw n < (r.den : Int) ∧ (r.den : Int) < pw n)
theorem bd_ok {r : Rat} {n : Nat} (h : bd r n) (hn : n ≤ 60) : okF r := by
  have := pw_mono hn
  obtain ⟨h1, h2⟩ := h
  exact ⟨okZ.of (by omega), okZ.of (by omega)⟩
theorem bd_mono {r : Rat} {m n : Nat} (h : bd r m) (hn : m ≤ n) : bd r n := by
  have := pw_mono hn
  obtain ⟨h1, h2⟩ := h
  exact ⟨by omega, by omega⟩
theorem bd_div {x y : Int} {n : Nat} (h0 : y ≠ 0) (hx : -pw n < x ∧ x < pw n) (hy : -pw n < y ∧ y < pw n) : bd (Rat.divInt x y) n := by
  obtain ⟨h1, h2⟩ := divInt_le (x := x) h0
  have a := sgn_cases x
  have b := sgn_cases y
  have c := sgn_cases (Rat.divInt x y).num
  have d := sgn_cases ((Rat.divInt x y).den : Int)
  exact ⟨by omega, by omega⟩
theorem add_bd {a b : Rat} {m n k : Nat} (hk : m + n = k) (ha : bd a m) (hB : bd b n) (h60 : k + 1 ≤ 60) : bd (a + b) (k + 1) ∧ addOk a b := by
  have h1 := mul_lt hk ha.1 hB.2
  have h2 := mul_lt (m := n) (n := m) (k := k) (by omega) hB.1 ha.2
  have h3 := mul_lt hk ha.2 hB.2
  have e : pw (k + 1) = 1048576 * pw k := by rw [pw_succ]
  have hm := pw_mono h60
  have hp := pw_pos k
  refine ⟨?_, ⟨⟨okZ.of (by omega), okZ.of (by omega), okZ.of (by omega)⟩, okZ.of (by omega)⟩⟩
  rw [rat_add]
  exact bd_div (mul_ne (den_ne a) (den_ne b)) (by omega) (by omega)
theorem cmpR_cases (a b : Rat) : (cmpR a b = -1 ∧ a < b) ∨ (cmpR a b = 0 ∧ a = b) ∨ (cmpR a b = 1 ∧ b < a) := by
  unfold cmpR
  rcases cmp_cases (a.num * b.den) (b.num * a.den) with h | h | h
  · exact .inl ⟨h.1, (Rat.lt_iff a b).2 h.2⟩
  · exact .inr (.inl ⟨h.1, Rat.le_antisymm ((Rat.le_iff a b).2 (by omega)) ((Rat.le_iff b a).2 (by omega))⟩)
  · exact .inr (.inr ⟨h.1, (Rat.lt_iff b a).2 h.2⟩)
theorem sgnR_cases (r : Rat) : (sgn r.num = -1 ∧ r < 0) ∨ (sgn r.num = 0 ∧ r = 0) ∨ (sgn r.num = 1 ∧ 0 < r) := by
  have h1 := cmpR_cases r 0
  have c := sgn_cases r.num
  have e : cmpR r 0 = sgn r.num := by
    unfold cmpR
    have k := cmp_cases (r.num * ((0 : Rat).den : Int)) ((0 : Rat).num * r.den)
    rw [show ((0 : Rat).den : Int) = 1 from rfl, show (0 : Rat).num = 0 from rfl, Int.mul_one, Int.zero_mul] at k ⊢
    omega
  rw [e] at h1
  exact h1
theorem sgn_neg (r : Rat) : (sgn r.num < 0) ↔ r < 0 := by
  rcases sgnR_cases r with h | h | h
  · exact ⟨fun _ => h.2, fun _ => by omega⟩
  · exact ⟨fun _ => by omega, fun k => by have := h.2; grind⟩
  · exact ⟨fun _ => by omega, fun k => by have := h.2; grind⟩
theorem mulOk_okF {a b : Rat} (h : mulOk a b) : okF (a * b) := by
  rw [rat_mul]
  exact okF_of h.1 h.2 (mul_ne (den_ne a) (den_ne b))
end
end Go.Proofs.Ythddpdfljjhfeaa
end
section
set_option linter.unusedVariables false
set_option linter.unusedSimpArgs false
set_option maxHeartbeats 8000000
namespace Go.Proofs.Ythddpdfljjhfeaa
open Lf Go
attribute [local irreducible] PureOp EffOp Ev RG W Then InBlock Lf.Fin nth App InitE Pick EvL EvD EvP EvR ResL Lf.Lex SubR SubBR FinO FinM ResM ResD FinS val pw digs trimL
section
open CalLaw
theorem date_ex' (n : Int) : ∃ z : Int × Int × Int, (0 ≤ n ∧ n ≤ 200000) → (1900 ≤ z.1 ∧ z.1 ≤ 2447) ∧ IsDate z.1 z.2.1 z.2.2 ∧ num z.1 z.2.1 z.2.2 = n := by
  by_cases h : 0 ≤ n ∧ n ≤ 200000
  · obtain ⟨y, m, d, h1, h2, h3, h4⟩ := date_ex h
    exact ⟨(y, m, d), fun _ => ⟨⟨h1, h2⟩, h3, h4⟩⟩
  · exact ⟨(0, 0, 0), fun q => absurd q h⟩
/-- the date of a day -/
noncomputable def dt (n : Int) : Int × Int × Int := Classical.choose (date_ex' n)
theorem dt_spec {n : Int} (h : 0 ≤ n ∧ n ≤ 200000) : (1900 ≤ (dt n).1 ∧ (dt n).1 ≤ 2447) ∧ IsDate (dt n).1 (dt n).2.1 (dt n).2.2 ∧ num (dt n).1 (dt n).2.1 (dt n).2.2 = n := Classical.choose_spec (date_ex' n) h
theorem dt_of {y m d : Int} (hd : IsDate y m d) (h : 0 ≤ num y m d ∧ num y m d ≤ 200000) : dt (num y m d) = (y, m, d) := by
  obtain ⟨_, h2, h3⟩ := dt_spec h
  obtain ⟨e1, e2, e3⟩ := date_uniq h2 hd h3
  exact Prod.ext e1 (Prod.ext e2 e3)
noncomputable def th (n : Int) : Int := thirty (dt n).1 (dt n).2.1 (dt n).2.2
def lp (n : Int) : Int := lpd n 548
theorem th_rng {n : Int} (h : 0 ≤ n ∧ n ≤ 200000) : 0 ≤ th n ∧ th n ≤ 900000 := by
  obtain ⟨⟨h1, h2⟩, h3, _⟩ := dt_spec h
  have a := h3.m1
  have b := h3.m12
  have c := h3.d1
  unfold th thirty
  omega
theorem th_mono {a b : Int} (ha : 0 ≤ a) (hab : a ≤ b) (hb : b ≤ 200000) : th a ≤ th b := by
  obtain ⟨_, h3, h4⟩ := dt_spec (n := a) (by omega)
  obtain ⟨_, k3, k4⟩ := dt_spec (n := b) (by omega)
  exact thirty_mono h3 k3 (by omega)
theorem lpd_zero (n : Int) (h : n ≤ 0) : ∀ k, lpd n k = 0
  | 0 => rfl
  | k + 1 => by
    have h1 := before_mono 1900 k
    rw [before_1900] at h1
    rw [lpd, lpd_zero n h k]
    split <;> omega
theorem lp_mono {a b : Int} (hab : a ≤ b) : lp a ≤ lp b ∧ lp b ≤ lp a + (b - a) := by
  have := lpd_mono a 548 (b - a).toNat
  rw [show a + ((b - a).toNat : Int) = b by omega] at this
  unfold lp
  omega
theorem lp_rng {n : Int} (h : 0 ≤ n) : 0 ≤ lp n ∧ lp n ≤ n := by
  have := lp_mono h
  have e : lp 0 = 0 := lpd_zero 0 (by omega) 548
  omega
theorem lp_at {n : Int} {k : Nat} (hk : k ≤ 548) (h : n ≤ before (1900 + k)) : lpd n k = lp n := by
  have := lpd_more h (548 - k)
  rw [show k + (548 - k) = 548 by omega] at this
  exact this.symm
/-- a year that is over -/
theorem lpd_past {n : Int} {k : Nat} (h : before (1900 + (k : Int)) + yl (1900 + (k : Int)) ≤ n) : lpd n (k + 1) = lpd n k + if leap (1900 + k) then 366 else 0 := by
  rw [lpd]
  unfold yl at h
  split
  · rw [if_pos (by assumption)] at h; omega
  · rfl
theorem thirty_ok (n : Int) (h : 0 ≤ n ∧ n ≤ 200000) : ACalls Try.prog 29 [cI n] (.pv (cI (th n))) := by
  obtain ⟨h1, h3, h4⟩ := dt_spec h
  have p1 := parts_ok n _ _ _ h h1 h3 h4
  have a := h3.m1
  have b := h3.m12
  have c := h3.d1
  have d := h3.dl
  have e := last_le (dt n).1 (dt n).2.1
  unfold th thirty
  generalize (dt n).1 = y at *
  generalize (dt n).2.1 = m at *
  generalize (dt n).2.2 = x at *
  refine ACalls.of_W (qs := [cI (360 * y + 30 * m + min x 30)]) [2] 22 Try.func29 (by kernel_rfl) rfl rfl rfl fun G => ?_
  refine W.initA (hw := ?_)
  repeat' (first | ((first | apply U_); (first | exact QX.B TYok | exact QX.Num TYok | exact QX.Ext TYok | exact QCd (p1)); exact rfl) | refine SC ?_ | (refine W.condA (ht := fun hb => ?_) (hf := fun hb => ?_) <;> (try simp at hb) <;> (try (exfalso; omega))))
  all_goals first
    | exact Fin.ret ResL.auto
    | trace_state
theorem pleap_ok (n : Int) (h : 0 ≤ n ∧ n ≤ 200000) : ACalls Try.prog 33 [cI n] (.pv (cI (lp n))) := by
  obtain ⟨h1, h3, h4⟩ := dt_spec h
  have p1 := parts_ok n _ _ _ h h1 h3 h4
  have hyr := h3.year
  rw [h4] at hyr
  generalize (dt n).1 = y at *
  generalize (dt n).2.1 = m at *
  generalize (dt n).2.2 = x at *
  have br := before_rng (y := y) (by omega)
  have yr := yl_rng y
  refine ACalls.of_W (qs := [cI (lp n)]) [2] 40 Try.func33 (by kernel_rfl) rfl rfl rfl fun G => ?_
  refine W.initA (hw := ?_)
  repeat' (first | ((first | apply U_); (first | exact QX.B TYok | exact QX.Ext TYok | exact QCd (p1)); exact rfl) | refine SC ?_ | (refine W.condA (ht := fun hb => ?_) (hf := fun hb => ?_) <;> (try simp at hb) <;> (try (exfalso; omega))))
  apply W.loopP (σ := Nat) 40 [0, 3] (fun k => 1900 + (k : Int) ≤ y) (fun k => [(8, vI (1900 + (k : Int))), (7, vI (lpd n k))]) (fun _ => []) (fun k => (y - 1900).toNat - k) (0)
  case hp => repeat (first | exact Pick.nil | apply Pick.cons rfl)
  case h0 =>
    refine ⟨by omega, ?_⟩
    rw [show lpd n 0 = 0 from rfl]
    exact Le.auto
  case round =>
    rintro k gk
    apply W.norm (by repeat (first | exact App.nil | apply App.cons))
    have r1 : 0 ≤ lpd n k ∧ lpd n k ≤ n := by
      have := lpd_mono 0 k n.toNat
      rw [lpd_zero 0 (by omega) k, show (0 : Int) + (n.toNat : Int) = n by omega] at this
      omega
    by_cases hk : 1900 + (k : Int) < y
    · have l1 := isLeap_ok (1900 + (k : Int))
      have hlt := before_lt hk
      have e1 := lpd_past (n := n) (k := k) (by omega)
      generalize lpd n k = A at *
      cases hb : leap (1900 + (k : Int)) with
      | true =>
        rw [hb] at l1 e1
        rw [if_pos rfl] at e1
        repeat' (first | ((first | apply U_); (first | exact QX.B TYok | exact QX.Ext TYok | exact QCd (l1)); exact rfl) | refine SC ?_ | (refine W.condA (ht := fun hb => ?_) (hf := fun hb => ?_) <;> (try simp at hb) <;> (try (exfalso; omega))))
        all_goals first
          | (refine ⟨k + 1, by omega, ?_, by omega⟩
             (try dsimp only)
             rw [e1, show 1900 + (((k + 1 : Nat)) : Int) = 1900 + (k : Int) + 1 by omega]
             exact Le.auto)
          | trace_state
      | false =>
        rw [hb] at l1 e1
        rw [if_neg (by decide), Int.add_zero] at e1
        repeat' (first | ((first | apply U_); (first | exact QX.B TYok | exact QX.Ext TYok | exact QCd (l1)); exact rfl) | refine SC ?_ | (refine W.condA (ht := fun hb => ?_) (hf := fun hb => ?_) <;> (try simp at hb) <;> (try (exfalso; omega))))
        all_goals first
          | (refine ⟨k + 1, by omega, ?_, by omega⟩
             (try dsimp only)
             rw [e1, show 1900 + (((k + 1 : Nat)) : Int) = 1900 + (k : Int) + 1 by omega]
             exact Le.auto)
          | trace_state
    · have ek : 1900 + (k : Int) = y := by omega
      have l1 := isLeap_ok y
      have e1 : lp n = lpd n k + if leap y then n - before y else 0 := by
        have e2 := lp_at (n := n) (k := k + 1) (by omega) (by rw [show 1900 + (((k + 1 : Nat)) : Int) = y + 1 by omega, before_succ]; omega)
        rw [← e2, lpd, ek]
        split <;> omega
      rw [e1]
      generalize lpd n k = A at *
      cases hb : leap y with
      | true =>
        rw [hb] at l1
        have o1 := dof_ok y 1 1
        have en : num y 1 1 = before y := by
          unfold num
          rw [show mdays y (1 - 1 : Int).toNat = 0 from rfl]; omega
        have el : last y 1 = 31 := rfl
        have e3 : dofV y 1 1 = before y := by
          unfold dofV
          rw [en, if_pos ⟨by omega, by omega, by omega⟩]
        rw [e3] at o1
        generalize dofE y 1 1 = E at *
        generalize before y = B at *
        rw [if_pos rfl]
        repeat' (first | ((first | apply U_); (first | exact QX.B TYok | exact QX.Ext TYok | exact QCd (l1) | exact QCd (o1)); exact rfl) | refine SC ?_ | (refine W.condA (ht := fun hb => ?_) (hf := fun hb => ?_) <;> (try simp at hb) <;> (try (exfalso; omega))))
        all_goals first
          | exact Fin.ret ResL.auto
          | trace_state
      | false =>
        rw [hb] at l1
        rw [if_neg (by decide), Int.add_zero]
        repeat' (first | ((first | apply U_); (first | exact QX.B TYok | exact QX.Ext TYok | exact QCd (l1)); exact rfl) | refine SC ?_ | (refine W.condA (ht := fun hb => ?_) (hf := fun hb => ?_) <;> (try simp at hb) <;> (try (exfalso; omega))))
        all_goals first
          | exact Fin.ret ResL.auto
          | trace_state
end
end Go.Proofs.Ythddpdfljjhfeaa
end
section
set_option linter.unusedVariables false
set_option linter.unusedSimpArgs false
set_option maxHeartbeats 8000000
namespace Go.Proofs.Ythddpdfljjhfeaa
open Lf Go
attribute [local irreducible] PureOp EffOp Ev RG W Then InBlock Lf.Fin nth App InitE Pick EvL EvD EvP EvR ResL Lf.Lex SubR SubBR FinO FinM ResM ResD FinS val pw digs trimL
section
open CalLaw
attribute [local irreducible] sgn mag gcdZ quoZ remZ fullZ fullE
abbrev encQ (r : Rat) : List Cell := [.int .i64 (sgn r.num), .sl ((digs (mag r.num)).map Lf.encI), .int .i64 (sgn r.den), .sl ((digs (mag r.den)).map Lf.encI)]
abbrev spanP (c f t : Int) : Prop := (0 ≤ c ∧ c ≤ 2) ∧ (0 ≤ f ∧ f ≤ t) ∧ t ≤ 200000
theorem span_ok (c f t : Int) : ACalls Try.prog 28 [cI c, cI f, cI t] (.pv (cB (decide (spanP c f t)))) := by
  have d1 := day_ok f
  have d2 := day_ok t
  have e : decide (spanP c f t) = ((((decide (0 ≤ c) && decide (c < 3)) && (decide (0 ≤ f) && decide (f ≤ 200000))) && (decide (0 ≤ t) && decide (t ≤ 200000))) && decide (f ≤ t)) := by
    rw [Bool.eq_iff_iff]
    simp only [Bool.and_eq_true, decide_eq_true_iff]
    omega
  rw [e]
  generalize (decide (0 ≤ f) && decide (f ≤ 200000)) = b1 at *
  generalize (decide (0 ≤ t) && decide (t ≤ 200000)) = b2 at *
  refine ACalls.of_W (qs := [cB ((((decide (0 ≤ c) && decide (c < 3)) && b1) && b2) && decide (f ≤ t))]) [6] 26 Try.func28 (by kernel_rfl) rfl rfl rfl fun G => ?_
  refine W.initA (hw := ?_)
  repeat' (first | ((first | apply U_ | (apply Ug_; exact rfl; exact rfl) | (apply Ugq_; exact rfl; exact rfl)); (first | exact QX.B TYok | exact QCd (d1) | exact QCd (d2)); exact rfl) | refine SC ?_ | refine SG ?_ | (refine W.condA (ht := fun hb => ?_) (hf := fun hb => ?_) <;> (try simp at hb) <;> (try (exfalso; omega))))
  all_goals first
    | exact Fin.ret ResL.auto
    | trace_state
noncomputable def daysV (c f t : Int) : Int := if c = 0 then th t - th f else t - f
theorem days_yes (c f t : Int) (h : spanP c f t) : ACalls Try.prog 10 [cI c, cI f, cI t] (.tup [cI (daysV c f t), cI 0]) := by
  have s1 := span_ok c f t
  rw [decide_eq_true h] at s1
  obtain ⟨⟨h1, h2⟩, ⟨h3, h4⟩, h5⟩ := h
  have r1 := th_rng (n := f) (by omega)
  have r2 := th_rng (n := t) (by omega)
  have t1 := thirty_ok f (by omega)
  have t2 := thirty_ok t (by omega)
  unfold daysV
  generalize th f = F at *
  generalize th t = T at *
  by_cases h0 : c = 0
  · rw [if_pos h0]
    refine ACalls.of_W (qs := [cI (T - F), cI 0]) [6, 7] 23 Try.func10 (by kernel_rfl) rfl rfl rfl fun G => ?_
    refine W.initA (hw := ?_)
    repeat' (first | ((first | apply U_); (first | exact QX.B TYok | exact QCd (s1) | exact QCd (t1) | exact QCd (t2)); exact rfl) | refine SC ?_ | (apply S_isnil TYok; exact rfl; exact rfl; exact rfl; exact Ev.auto; intro bn hnil) | (refine W.condA (ht := fun hb => ?_) (hf := fun hb => ?_) <;> (try simp at hb) <;> (try (exfalso; omega))))
    all_goals exact Fin.ret ResL.auto
  · rw [if_neg h0]
    refine ACalls.of_W (qs := [cI (t - f), cI 0]) [6, 7] 23 Try.func10 (by kernel_rfl) rfl rfl rfl fun G => ?_
    refine W.initA (hw := ?_)
    repeat' (first | ((first | apply U_); (first | exact QX.B TYok | exact QCd (s1) | exact QCd (t1) | exact QCd (t2)); exact rfl) | refine SC ?_ | (apply S_isnil TYok; exact rfl; exact rfl; exact rfl; exact Ev.auto; intro bn hnil) | (refine W.condA (ht := fun hb => ?_) (hf := fun hb => ?_) <;> (try simp at hb) <;> (try (exfalso; omega))))
    all_goals exact Fin.ret ResL.auto
theorem days_no (c f t : Int) (h : ¬ spanP c f t) : ACalls Try.prog 10 [cI c, cI f, cI t] (.tup [cI 0, cI 1]) := by
  have s1 := span_ok c f t
  rw [decide_eq_false h] at s1
  refine ACalls.of_W (qs := [cI 0, cI 1]) [6, 7] 23 Try.func10 (by kernel_rfl) rfl rfl rfl fun G => ?_
  refine W.initA (hw := ?_)
  repeat' (first | ((first | apply U_); (first | exact QX.B TYok | exact QCd (s1)); exact rfl) | refine SC ?_ | (apply S_isnil TYok; exact rfl; exact rfl; exact rfl; exact Ev.auto; intro bn hnil) | (refine W.condA (ht := fun hb => ?_) (hf := fun hb => ?_) <;> (try simp at hb) <;> (try (exfalso; omega))))
  all_goals exact Fin.ret ResL.auto
theorem daysV_rng {c f t : Int} (h : spanP c f t) : 0 ≤ daysV c f t ∧ daysV c f t ≤ 900000 := by
  obtain ⟨⟨h1, h2⟩, ⟨h3, h4⟩, h5⟩ := h
  have r1 := th_rng (n := f) (by omega)
  have r2 := th_rng (n := t) (by omega)
  have r3 := th_mono h3 h4 h5
  unfold daysV
  split <;> omega
/-- the part of a year -/
noncomputable def shareV (c f t : Int) : Rat := if c = 0 then Rat.divInt (daysV c f t) 360 else if c = 1 then Rat.divInt (daysV c f t) 365 else Rat.divInt (lp t - lp f) 366 + Rat.divInt (daysV c f t - (lp t - lp f)) 365
theorem pw1 : pw 1 = 1048576 := by decide +kernel
theorem small_bd {p q : Int} (hp : -1048576 < p ∧ p < 1048576) (hq : -1048576 < q ∧ q < 1048576) (h : q ≠ 0) : bd (Rat.divInt p q) 1 := by
  have e := pw1
  exact bd_div h (by omega) (by omega)
theorem share_bd {c f t : Int} (h : spanP c f t) : bd (shareV c f t) 3 := by
  have r := daysV_rng h
  obtain ⟨⟨h1, h2⟩, ⟨h3, h4⟩, h5⟩ := h
  have m := lp_mono h4
  unfold shareV
  split
  · exact bd_mono (small_bd (by omega) (by omega) (by omega)) (by omega)
  · split
    · exact bd_mono (small_bd (by omega) (by omega) (by omega)) (by omega)
    · rename_i k1 k2
      have e : daysV c f t = t - f := if_neg k1
      exact (add_bd (k := 2) (by omega) (small_bd (by omega) (by omega) (by omega)) (small_bd (by omega) (by omega) (by omega)) (by omega)).1
theorem share_yes (c f t : Int) (h : spanP c f t) : ACalls Try.prog 12 [cI c, cI f, cI t] (.tup [zF (shareV c f t), cI 0]) := by
  have d1 := days_yes c f t h
  have r := daysV_rng h
  obtain ⟨⟨h1, h2⟩, ⟨h3, h4⟩, h5⟩ := h
  have m := lp_mono h4
  by_cases k0 : c = 0
  · rw [show shareV c f t = Rat.divInt (daysV c f t) 360 from if_pos k0]
    have o1 := Of_ok (daysV c f t) 360 (by unfold i64B; omega) (by unfold i64B; omega) (by omega)
    generalize Rat.divInt (daysV c f t) 360 = R at *
    generalize daysV c f t = D at *
    refine ACalls.of_M TYok (qs := [zF R, cI 0]) [.cell 6 26, .tmp 7] 61 Try.func12 (by kernel_rfl) rfl rfl rfl fun G => ?_
    refine W.initA (hw := ?_)
    repeat' (first | ((first | apply U_); (first | exact QX.B TYok | exact QX.Ext TYok | exact QX.Build TYok | exact QCd (d1) | exact QCd (o1)); exact rfl) | refine SX.Alloc TYok (h := ?_) | refine SX.Store TYok (h := ?_) | refine SC ?_ | (apply S_isnil TYok; exact rfl; exact rfl; exact rfl; exact Ev.auto; intro bn hnil) | (refine W.condA (ht := fun hb => ?_) (hf := fun hb => ?_) <;> (try simp at hb) <;> (try (exfalso; omega))))
    all_goals exact FinM.ret ResM.auto
  by_cases k1 : c = 1
  · rw [show shareV c f t = Rat.divInt (daysV c f t) 365 by unfold shareV; rw [if_neg k0, if_pos k1]]
    have o1 := Of_ok (daysV c f t) 365 (by unfold i64B; omega) (by unfold i64B; omega) (by omega)
    generalize Rat.divInt (daysV c f t) 365 = R at *
    generalize daysV c f t = D at *
    refine ACalls.of_M TYok (qs := [zF R, cI 0]) [.cell 6 26, .tmp 7] 61 Try.func12 (by kernel_rfl) rfl rfl rfl fun G => ?_
    refine W.initA (hw := ?_)
    repeat' (first | ((first | apply U_); (first | exact QX.B TYok | exact QX.Ext TYok | exact QX.Build TYok | exact QCd (d1) | exact QCd (o1)); exact rfl) | refine SX.Alloc TYok (h := ?_) | refine SX.Store TYok (h := ?_) | refine SC ?_ | (apply S_isnil TYok; exact rfl; exact rfl; exact rfl; exact Ev.auto; intro bn hnil) | (refine W.condA (ht := fun hb => ?_) (hf := fun hb => ?_) <;> (try simp at hb) <;> (try (exfalso; omega))))
    all_goals exact FinM.ret ResM.auto
  · have e : daysV c f t = t - f := if_neg k0
    have b1 := small_bd (p := lp t - lp f) (q := 366) (by omega) (by omega) (by omega)
    have b2 := small_bd (p := daysV c f t - (lp t - lp f)) (q := 365) (by omega) (by omega) (by omega)
    have ad := add_bd (k := 2) (by omega) b1 b2 (by omega)
    rw [show shareV c f t = Rat.divInt (lp t - lp f) 366 + Rat.divInt (daysV c f t - (lp t - lp f)) 365 by unfold shareV; rw [if_neg k0, if_neg k1]]
    have a1 := add_yes _ _ (bd_ok b1 (by omega)) (bd_ok b2 (by omega)) ad.2
    have l1 := pleap_ok f (by omega)
    have l2 := pleap_ok t (by omega)
    have rf := lp_rng h3
    have rt := lp_rng (n := t) (by omega)
    have o1 := Of_ok (lp t - lp f) 366 (by unfold i64B; omega) (by unfold i64B; omega) (by omega)
    have o2 := Of_ok (daysV c f t - (lp t - lp f)) 365 (by unfold i64B; omega) (by unfold i64B; omega) (by omega)
    generalize Rat.divInt (lp t - lp f) 366 + Rat.divInt (daysV c f t - (lp t - lp f)) 365 = R at *
    generalize Rat.divInt (lp t - lp f) 366 = R1 at *
    generalize Rat.divInt (daysV c f t - (lp t - lp f)) 365 = R2 at *
    generalize daysV c f t = D at *
    generalize lp t = T at *
    generalize lp f = F at *
    refine ACalls.of_M TYok (qs := [zF R, cI 0]) [.cell 6 26, .tmp 7] 61 Try.func12 (by kernel_rfl) rfl rfl rfl fun G => ?_
    refine W.initA (hw := ?_)
    repeat' (first | ((first | apply U_); (first | exact QX.B TYok | exact QX.Ext TYok | exact QX.Build TYok | exact QCd (d1) | exact QCd (l1) | exact QCd (l2) | exact QCd (o1) | exact QCd (o2) | exact QCd (a1)); exact rfl) | refine SX.Alloc TYok (h := ?_) | refine SX.Store TYok (h := ?_) | refine SC ?_ | (apply S_isnil TYok; exact rfl; exact rfl; exact rfl; exact Ev.auto; intro bn hnil) | (refine W.condA (ht := fun hb => ?_) (hf := fun hb => ?_) <;> (try simp at hb) <;> (try (exfalso; omega))))
    all_goals first
      | exact FinM.ret ResM.auto
      | trace_state
theorem share_no (c f t : Int) (h : ¬ spanP c f t) : ACalls Try.prog 12 [cI c, cI f, cI t] (.tup [zF0, cI 1]) := by
  have d1 := days_no c f t h
  refine ACalls.of_M TYok (qs := [zF0, cI 1]) [.cell 6 26, .tmp 7] 61 Try.func12 (by kernel_rfl) rfl rfl rfl fun G => ?_
  refine W.initA (hw := ?_)
  repeat' (first | ((first | apply U_); (first | exact QX.B TYok | exact QX.Ext TYok | exact QX.Build TYok | exact QCd (d1)); exact rfl) | refine SX.Alloc TYok (h := ?_) | refine SX.Store TYok (h := ?_) | refine SC ?_ | (apply S_isnil TYok; exact rfl; exact rfl; exact rfl; exact Ev.auto; intro bn hnil) | (refine W.condA (ht := fun hb => ?_) (hf := fun hb => ?_) <;> (try simp at hb) <;> (try (exfalso; omega))))
  all_goals exact FinM.ret (ResM.cell rfl rfl rfl rfl zeroSubF (ResM.tmp rfl rfl PSub.rfl' ResM.nil))
end
end Go.Proofs.Ythddpdfljjhfeaa
end
section
set_option linter.unusedVariables false
set_option linter.unusedSimpArgs false
set_option maxHeartbeats 8000000
namespace Go.Proofs.Ythddpdfljjhfeaa
open Lf Go
attribute [local irreducible] PureOp EffOp Ev RG W Then InBlock Lf.Fin nth App InitE Pick EvL EvD EvP EvR ResL Lf.Lex SubR SubBR FinO FinM ResM ResD FinS val pw digs trimL
set_option linter.unusedSectionVars false
section
theorem rightF_yes {r : Rat} (h : okF r) : rightFB (sgn r.num) (digs (mag r.num)) (sgn r.den) (digs (mag r.den)) = true := by
  have hp := den_pos r
  unfold rightFB
  have c := sgn_cases r.den
  rw [num_right h.1, num_right h.2, decide_eq_true (show sgn r.den = 1 by omega), val_mag, val_mag, sgn_mag, show mag r.den = r.den by omega, num_den_gcd]; rfl
attribute [local irreducible] sgn mag gcdZ quoZ remZ fullZ fullE
theorem least_ok (s : Int) (d : List Int) (s' : Int) (d' : List Int) (hd : d.length ≤ 9223372036854775807) (hd' : d'.length ≤ 9223372036854775807) : ACalls Try.prog 38 [fB s d s' d'] (.pv (cB (rightFB s d s' d' && decide (0 ≤ s)))) := by
  have r1 := fright_ok s d s' d' hd hd'
  generalize rightFB s d s' d' = b at *
  refine ACalls.of_W (qs := [cB (b && decide (0 ≤ s))]) [2] 11 Try.func38 (by kernel_rfl) rfl rfl rfl fun G => ?_
  refine W.initA (hw := ?_)
  repeat' (first | ((first | apply U_ | (apply Ug_; exact rfl; exact rfl) | (apply Ugq_; exact rfl; exact rfl)); (first | exact QX.B TYok | exact QCd (r1)); exact rfl) | refine SX.Box TYok (h := ?_) | refine SC ?_ | refine SG ?_ | (refine W.condA (ht := fun hb => ?_) (hf := fun hb => ?_) <;> (try simp at hb) <;> (try (exfalso; omega))))
  all_goals first
    | exact Fin.ret ResL.auto
    | trace_state
abbrev amtP (a u : Int) : Prop := (0 ≤ a ∧ a ≤ 1000000000000000) ∧ (0 ≤ u ∧ u ≤ 1000000000)
section
variable (a u : Int) (s : Int) (d : List Int) (s' : Int) (d' : List Int) (t : Int) (m : List Int) (t' : Int) (m' : List Int) (hd : d.length ≤ 9223372036854775807) (hd' : d'.length ≤ 9223372036854775807) (hm : m.length ≤ 9223372036854775807) (hm' : m'.length ≤ 9223372036854775807)
  (h : ¬ (amtP a u ∧ (rightFB s d s' d' = true ∧ 0 ≤ s) ∧ (rightFB t m t' m' = true ∧ 0 ≤ t)))
include hd hd' hm hm' h
end
/-- the product so far -/
def amtW (u r q : Rat) : List Rat := [u, r, q]
instance : Inhabited Rat := ⟨0⟩
def amtS (a u r q : Rat) : Nat → Rat
  | 0 => a
  | k + 1 => amtS a u r q k * nth (amtW u r q) k
section
variable (a u : Int) (r q : Rat) (ha : amtP a u) (or : okF r) (oq : okF q) (r0 : 0 ≤ r) (q0 : 0 ≤ q)
include ha or oq r0 q0
theorem amount_walk (n : Nat) (hn : n ≤ 3) (hu : ∀ j, j < n → mulOk (amtS a u r q j) (nth (amtW u r q) j)) (e : Int) (V : PV) (he : (e = 0 ∧ n = 3 ∧ V = zF (amtS a u r q 3)) ∨ (e = 6 ∧ n < 3 ∧ V = zF0 ∧ ¬ mulOk (amtS a u r q n) (nth (amtW u r q) n))) :
    ACalls Try.prog 15 [cI a, cI u, zF r, zF q] (.tup [V, cI e]) := by
  have lr := num_len or.1
  have lr' := num_len or.2
  have lq := num_len oq.1
  have lq' := num_len oq.2
  have l1 := least_ok (sgn r.num) (digs (mag r.num)) (sgn r.den) (digs (mag r.den)) (by omega) (by omega)
  have l2 := least_ok (sgn q.num) (digs (mag q.num)) (sgn q.den) (digs (mag q.den)) (by omega) (by omega)
  have r1 : ¬ sgn r.num < 0 := fun k => by have := (sgn_neg r).1 k; grind
  have q1 : ¬ sgn q.num < 0 := fun k => by have := (sgn_neg q).1 k; grind
  have e1 : (rightFB (sgn r.num) (digs (mag r.num)) (sgn r.den) (digs (mag r.den)) && decide (0 ≤ sgn r.num)) = true := by
    rw [rightF_yes or, decide_eq_true (by omega)]; rfl
  have e2 : (rightFB (sgn q.num) (digs (mag q.num)) (sgn q.den) (digs (mag q.den)) && decide (0 ≤ sgn q.num)) = true := by
    rw [rightF_yes oq, decide_eq_true (by omega)]; rfl
  rw [e1] at l1
  rw [e2] at l2
  obtain ⟨⟨a1, a2⟩, u1, u2⟩ := ha
  have oa := Of_ok a 1 (by unfold i64B; omega) (by unfold i64B; omega) (by omega)
  have ou := Of_ok u 1 (by unfold i64B; omega) (by unfold i64B; omega) (by omega)
  rw [divInt_one] at oa ou
  have okA : ∀ j, j ≤ n → okF (amtS a u r q j) := fun j => by
    induction j with
    | zero => intro _; exact okF_int (by unfold i64B; omega)
    | succ j ih => intro h; exact mulOk_okF (hu j (by omega))
  have okW : ∀ j, j < 3 → okF (nth (amtW u r q) j) := fun j hj => by
    have : j = 0 ∨ j = 1 ∨ j = 2 := by omega
    rcases this with rfl | rfl | rfl
    · rw [nth_eq (show 0 < (amtW u r q).length from by show 0 < 3; decide)]; exact okF_int (n := u) (by unfold i64B; omega)
    · rw [nth_eq (show 1 < (amtW u r q).length from by show 1 < 3; decide)]; exact or
    · rw [nth_eq (show 2 < (amtW u r q).length from by show 2 < 3; decide)]; exact oq
  refine ACalls.of_M TYok (qs := [V, cI e]) [.cell 8 26, .tmp 9] 75 Try.func15 (by kernel_rfl) rfl rfl rfl fun G => ?_
  refine W.initA (hw := ?_)
  repeat' (first | ((first | apply U_ | (apply Ug_; exact rfl; exact rfl) | (apply Ugq_; exact rfl; exact rfl)); (first | exact QX.B TYok | exact QX.Len TYok | exact QX.Idx TYok | exact QX.Ext TYok | exact QX.Build TYok | exact QCd (l1) | exact QCd (l2) | exact QCd (oa) | exact QCd (ou)); exact rfl) | refine SX.Alloc TYok (h := ?_) | refine SX.Store TYok (h := ?_) | refine SX.Lit TYok (h := ?_) | refine SX.Box TYok (h := ?_) | refine SC ?_ | refine SG ?_ | (refine W.condA (ht := fun hb => ?_) (hf := fun hb => ?_) <;> (try simp at hb) <;> (try (exfalso; omega))))
  apply W.loopP (σ := Nat) 75 [8, 10, 56, 57] (fun k => k ≤ n) (fun k => [(58, vI k)]) (fun k => [(8, ⟨26, 4, [[.int .i64 0, .slnil, .int .i64 0, .slnil]]⟩), (10, ⟨26, 4, [encQ (amtS a u r q k)]⟩), (56, ⟨26, 4, (amtW u r q).map encQ⟩)]) (fun k => n - k) (0)
  case hp => repeat (first | exact Pick.nil | apply Pick.cons rfl)
  case h0 =>
    refine ⟨by omega, ?_⟩
    exact Le.auto
  case round =>
    rintro k gk
    apply W.norm (by repeat (first | exact App.nil | apply App.cons))
    have w3 : (amtW u r q).length = 3 := rfl
    by_cases hk : k < n
    · have m1 := fmul_yes _ _ (okA k gk) (okW k (by omega)) (hu k hk)
      have e3 : amtS a u r q (k + 1) = amtS a u r q k * nth (amtW u r q) k := rfl
      rw [← e3] at m1
      clear e3
      generalize hA : amtS a u r q k = A at *
      generalize hB : amtS a u r q (k + 1) = B at *
      generalize amtW u r q = WW at *
      repeat' (first | ((first | apply U_ | (apply Ug_; exact rfl; exact rfl) | (apply Ugq_; exact rfl; exact rfl)); (first | exact QX.B TYok | exact QX.Len TYok | exact QX.Idx TYok | exact QX.Ext TYok | exact QX.Build TYok | exact QCd (m1)); exact rfl) | refine SX.Alloc TYok (h := ?_) | refine SX.Store TYok (h := ?_) | refine SX.Lit TYok (h := ?_) | refine SX.Box TYok (h := ?_) | refine SC ?_ | refine SG ?_ | (refine W.condA (ht := fun hb => ?_) (hf := fun hb => ?_) <;> (try simp at hb) <;> (try (exfalso; omega))))
      all_goals first
        | (refine ⟨k + 1, by omega, ?_, by omega⟩; (try dsimp only); rw [hB]; exact Le.auto)
        | trace_state
    · obtain rfl : k = n := by omega
      rcases he with ⟨rfl, rfl, rfl⟩ | ⟨rfl, h3, rfl, hno⟩
      · generalize amtS a u r q 3 = A at *
        generalize amtW u r q = WW at *
        repeat' (first | ((first | apply U_ | (apply Ug_; exact rfl; exact rfl) | (apply Ugq_; exact rfl; exact rfl)); (first | exact QX.B TYok | exact QX.Len TYok | exact QX.Idx TYok | exact QX.Ext TYok | exact QX.Build TYok); exact rfl) | refine SX.Alloc TYok (h := ?_) | refine SX.Store TYok (h := ?_) | refine SX.Lit TYok (h := ?_) | refine SX.Box TYok (h := ?_) | refine SC ?_ | refine SG ?_ | (refine W.condA (ht := fun hb => ?_) (hf := fun hb => ?_) <;> (try simp at hb) <;> (try (exfalso; omega))))
        all_goals first
          | exact FinM.ret ResM.auto
          | (exfalso; omega)
          | trace_state
      · have m1 := fmul_no _ _ (okA k gk) (okW k (by omega)) hno
        generalize amtS a u r q k = A at *
        generalize amtW u r q = WW at *
        repeat' (first | ((first | apply U_ | (apply Ug_; exact rfl; exact rfl) | (apply Ugq_; exact rfl; exact rfl)); (first | exact QX.B TYok | exact QX.Len TYok | exact QX.Idx TYok | exact QX.Ext TYok | exact QX.Build TYok | exact QCd (m1)); exact rfl) | refine SX.Alloc TYok (h := ?_) | refine SX.Store TYok (h := ?_) | refine SX.Lit TYok (h := ?_) | refine SX.Box TYok (h := ?_) | refine SC ?_ | refine SG ?_ | (refine W.condA (ht := fun hb => ?_) (hf := fun hb => ?_) <;> (try simp at hb) <;> (try (exfalso; omega))))
        all_goals first
          | exact FinM.ret (ResM.cell rfl rfl rfl rfl zeroSubF (ResM.tmp rfl rfl PSub.rfl' ResM.nil))
          | (exfalso; omega)
          | trace_state
theorem amtW_at : nth (amtW u r q) 0 = u ∧ nth (amtW u r q) 1 = r ∧ nth (amtW u r q) 2 = q := by
  refine ⟨?_, ?_, ?_⟩
  · rw [nth_eq (show 0 < (amtW u r q).length from by show 0 < 3; decide)]; rfl
  · rw [nth_eq (show 1 < (amtW u r q).length from by show 1 < 3; decide)]; rfl
  · rw [nth_eq (show 2 < (amtW u r q).length from by show 2 < 3; decide)]; rfl
theorem amount_ok (h : ∀ j, j < 3 → mulOk (amtS a u r q j) (nth (amtW u r q) j)) : ACalls Try.prog 15 [cI a, cI u, zF r, zF q] (.tup [zF (amtS a u r q 3), cI 0]) :=
  amount_walk a u r q ha or oq r0 q0 3 (by omega) h 0 _ (.inl ⟨rfl, rfl, rfl⟩)
end
def flV (r : Rat) : Int := if 0 ≤ quoZ r.num r.den ∧ quoZ r.num r.den ≤ 1000000000000000 then quoZ r.num r.den else 0
def flE (r : Rat) : Int := if 0 ≤ quoZ r.num r.den ∧ quoZ r.num r.den ≤ 1000000000000000 then 0 else 3
theorem fl_ok (r : Rat) (o : okF r) : ACalls Try.prog 17 [zF r] (.tup [cI (flV r), cI (flE r)]) := by
  have r1 := fright_yes r o
  have f1 := floor_ok r o
  have oz := okZ_quo (x := r.num) o.1 (den_ne r)
  have i1 := intZ_ok _ oz
  unfold flV flE
  generalize quoZ r.num r.den = x at *
  by_cases h : 0 ≤ x ∧ x ≤ 1000000000000000
  · have hi : i64B x := by unfold i64B; omega
    rw [show intV x = x from if_pos hi, decide_eq_true hi] at i1
    rw [if_pos h, if_pos h]
    refine ACalls.of_W (qs := [cI x, cI 0]) [2, 3] 26 Try.func17 (by kernel_rfl) rfl rfl rfl fun G => ?_
    refine W.initA (hw := ?_)
    repeat' (first | ((first | apply U_ | (apply Ug_; exact rfl; exact rfl) | (apply Ugq_; exact rfl; exact rfl)); (first | exact QX.B TYok | exact QX.Ext TYok | exact QCd (r1) | exact QCd (f1) | exact QCd (i1)); exact rfl) | refine SX.Box TYok (h := ?_) | refine SC ?_ | refine SG ?_ | (refine W.condA (ht := fun hb => ?_) (hf := fun hb => ?_) <;> (try simp at hb) <;> (try (exfalso; omega))))
    all_goals first
      | exact Fin.ret ResL.auto
      | (exfalso; omega)
      | trace_state
  · rw [if_neg h, if_neg h]
    have hbad : (decide (i64B x) = true ∧ 0 ≤ intV x) ∧ intV x ≤ 1000000000000000 → False := fun q => h (by
      have hi := of_decide_eq_true q.1.1
      rw [show intV x = x from if_pos hi] at q
      exact ⟨q.1.2, q.2⟩)
    generalize decide (i64B x) = b at *
    generalize intV x = v at *
    refine ACalls.of_W (qs := [cI 0, cI 3]) [2, 3] 26 Try.func17 (by kernel_rfl) rfl rfl rfl fun G => ?_
    refine W.initA (hw := ?_)
    repeat' (first | ((first | apply U_ | (apply Ug_; exact rfl; exact rfl) | (apply Ugq_; exact rfl; exact rfl)); (first | exact QX.B TYok | exact QX.Ext TYok | exact QCd (r1) | exact QCd (f1) | exact QCd (i1)); exact rfl) | refine SX.Box TYok (h := ?_) | refine SC ?_ | refine SG ?_ | (refine W.condA (ht := fun hb => ?_) (hf := fun hb => ?_) <;> (try simp at hb) <;> (try (exfalso; first | exact hbad hb | omega))))
    all_goals first
      | exact Fin.ret ResL.auto
      | (exfalso; omega)
      | trace_state
end
end Go.Proofs.Ythddpdfljjhfeaa
end
section
set_option linter.unusedVariables false
set_option linter.unusedSimpArgs false
set_option maxHeartbeats 8000000
namespace Go.Proofs.Ythddpdfljjhfeaa
open Lf Go
attribute [local irreducible] PureOp EffOp Ev RG W Then InBlock Lf.Fin nth App InitE Pick EvL EvD EvP EvR ResL Lf.Lex SubR SubBR FinO FinM ResM ResD FinS val pw digs trimL
section
open CalLaw
theorem th_at {y m d n : Int} (hd : IsDate y m d) (hn : num y m d = n) (h : 0 ≤ n ∧ n ≤ 200000) : th n = thirty y m d := by
  subst hn
  unfold th
  rw [dt_of hd h]
attribute [local irreducible] sgn mag gcdZ quoZ remZ fullZ fullE
theorem of_ok (n m : Int) (h : i64B n) (hm : i64B m) (h0 : m ≠ 0) : ACalls Try.prog 26 [cI n, cI m] (.pv (zF (Rat.divInt n m))) := by
  have n1 := qof_ok n m h hm h0
  generalize Rat.divInt n m = r at *
  refine ACalls.of_M TYok (qs := [zF r]) [.cell 4 26] 14 Try.func26 (by kernel_rfl) rfl rfl rfl fun G => ?_
  refine W.initA (hw := ?_)
  repeat' (first | ((first | apply U_); (first | exact QX.B TYok | exact QX.Ext TYok | exact QCd (n1)); exact rfl) | refine SX.Alloc TYok (h := ?_) | refine SX.Store TYok (h := ?_) | refine SC ?_ | (refine W.condA (ht := fun hb => ?_) (hf := fun hb => ?_) <;> (try simp at hb) <;> (try (exfalso; omega))))
  all_goals exact FinM.ret ResM.auto
theorem is_ok (v : Rat) (e p q : Int) (hv : okF v) (h : i64B p) (hm : i64B q) (h0 : q ≠ 0) : ACalls Try.prog 21 [zF v, cI e, cI p, cI q] (.pv (cB (decide (e = 0) && decide (v = Rat.divInt p q)))) := by
  have n1 := of_ok p q h hm h0
  have o1 := okF_of (i64_ok h) (i64_ok hm) h0
  generalize Rat.divInt p q = r at *
  have s1 := same_ok v r hv o1
  refine ACalls.of_W (qs := [cB (decide (e = 0) && decide (v = r))]) [8] 18 Try.func21 (by kernel_rfl) rfl rfl rfl fun G => ?_
  refine W.initA (hw := ?_)
  repeat' (first | ((first | apply U_ | (apply Ug_; exact rfl; exact rfl) | (apply Ugq_; exact rfl; exact rfl) | apply Lex.u | (apply Lex.g; exact rfl; exact rfl) | (apply Lex.gq; exact rfl; exact rfl)); (first | exact QX.B TYok | exact QCd (n1) | exact QCd (s1)); exact rfl) | refine SX.Box TYok (h := ?_) | refine SC ?_ | (apply S_isnil TYok; exact rfl; exact rfl; exact rfl; exact Ev.auto; intro bn hnil) | refine SG ?_ | (apply W.draw2 (id := 1) [0, 1, 3, 7, 7, 7, 55, 127, 255, 511] [[1], [9], [10], [4, 11], [2, 11], [3, 11], [13, 14, 11], [12, 15, 11], [11, 16], [17]] 10 [(9, 2), (10, 512), (11, 1024), (12, 2064), (13, 2052), (14, 2056), (15, 26624), (16, 38912), (17, 67584), (8, 131072)] mixed (by kernel_rfl) rfl rfl) | (refine W.condA (ht := fun hb => ?_) (hf := fun hb => ?_) <;> (try simp at hb) <;> (try (exfalso; omega))))
  all_goals first
    | exact Fin.ret ResL.auto
    | trace_state
theorem is_yes {v : Rat} {p q : Int} (hv : okF v) (h : i64B p) (hm : i64B q) (h0 : q ≠ 0) (e : v = Rat.divInt p q) : ACalls Try.prog 21 [zF v, cI 0, cI p, cI q] (.pv (cB true)) := by
  have := is_ok v 0 p q hv h hm h0
  rwa [decide_eq_true rfl, decide_eq_true e, Bool.and_self] at this
theorem th_smp : th 0 = 684031 ∧ th 31 = 684061 ∧ th 30 = 684060 ∧ th 59 = 684091 ∧ th 58 = 684088 ∧ th 365 = 684391 := by
  refine ⟨?_, ?_, ?_, ?_, ?_, ?_⟩
  · rw [th_at (y := 1900) (m := 1) (d := 1) ⟨by decide, by decide, by decide, by decide⟩ (by decide) (by decide)]; decide
  · rw [th_at (y := 1900) (m := 2) (d := 1) ⟨by decide, by decide, by decide, by decide⟩ (by decide) (by decide)]; decide
  · rw [th_at (y := 1900) (m := 1) (d := 31) ⟨by decide, by decide, by decide, by decide⟩ (by decide) (by decide)]; decide
  · rw [th_at (y := 1900) (m := 3) (d := 1) ⟨by decide, by decide, by decide, by decide⟩ (by decide) (by decide)]; decide
  · rw [th_at (y := 1900) (m := 2) (d := 28) ⟨by decide, by decide, by decide, by decide⟩ (by decide) (by decide)]; decide
  · rw [th_at (y := 1901) (m := 1) (d := 1) ⟨by decide, by decide, by decide, by decide⟩ (by decide) (by decide)]; decide
theorem lp_smp : lp 31 = 0 ∧ lp 0 = 0 := by decide +kernel
theorem rat_smp : Rat.divInt 30 360 = Rat.divInt 1 12 ∧ Rat.divInt 0 366 + Rat.divInt 31 365 = Rat.divInt 31 365 ∧ Rat.divInt 365 365 = Rat.divInt 1 1 ∧ Rat.divInt 360 360 = Rat.divInt 1 1 ∧ (1000 : Int) * (3 : Int) * Rat.divInt 1 20 * Rat.divInt 1 2 = Rat.divInt 75 1 := by decide +kernel
theorem share_smp : shareV 0 0 31 = Rat.divInt 1 12 ∧ shareV 1 0 31 = Rat.divInt 31 365 ∧ shareV 2 0 31 = Rat.divInt 31 365 ∧ daysV 0 30 59 = 31 ∧ daysV 0 58 59 = 3 ∧ shareV 1 0 365 = Rat.divInt 1 1 ∧ shareV 0 0 365 = Rat.divInt 1 1 := by
  obtain ⟨t1, t2, t3, t4, t5, t6⟩ := th_smp
  obtain ⟨l1, l2⟩ := lp_smp
  obtain ⟨e1, e2, e3, e4, _⟩ := rat_smp
  refine ⟨?_, ?_, ?_, ?_, ?_, ?_, ?_⟩
  · show Rat.divInt (th 31 - th 0) 360 = _
    rw [t1, t2]; exact e1
  · show Rat.divInt (31 - 0) 365 = _
    rfl
  · show Rat.divInt (lp 31 - lp 0) 366 + Rat.divInt (31 - 0 - (lp 31 - lp 0)) 365 = _
    rw [l1, l2]; exact e2
  · show th 59 - th 30 = 31
    rw [t3, t4]; rfl
  · show th 59 - th 58 = 3
    rw [t4, t5]; rfl
  · show Rat.divInt (365 - 0) 365 = _
    exact e3
  · show Rat.divInt (th 365 - th 0) 360 = _
    rw [t1, t6]; exact e4
end
section
theorem mul_smp : mulOk ((1000 : Int) : Rat) ((3 : Int) : Rat) ∧ mulOk (((1000 : Int) : Rat) * ((3 : Int) : Rat)) (Rat.divInt 1 20) ∧ mulOk (((1000 : Int) : Rat) * ((3 : Int) : Rat) * Rat.divInt 1 20) (Rat.divInt 1 2) := by
  unfold mulOk okZ; decide +kernel
theorem ok_smp : okF (Rat.divInt 1 20) ∧ okF (Rat.divInt 1 2) ∧ okF (Rat.divInt 75 1) ∧ okF (Rat.divInt 7 2) ∧ okF (Rat.divInt (-1) 2) ∧ okF (Rat.divInt 1 12) ∧ okF (Rat.divInt 31 365) ∧ okF (Rat.divInt 1 1) := by
  unfold okF okZ; decide +kernel
theorem fl_smp : flV (Rat.divInt 75 1) = 75 ∧ flE (Rat.divInt 75 1) = 0 ∧ flV (Rat.divInt 7 2) = 3 ∧ flE (Rat.divInt 7 2) = 0 ∧ flV (Rat.divInt (-1) 2) = 0 ∧ flE (Rat.divInt (-1) 2) = 3 := by decide +kernel
theorem pos_smp : (0 : Rat) ≤ Rat.divInt 1 20 ∧ (0 : Rat) ≤ Rat.divInt 1 2 := by decide +kernel
attribute [local irreducible] sgn mag gcdZ quoZ remZ fullZ fullE flV flE
theorem amt_smp : amtS ((1000 : Int) : Rat) ((3 : Int) : Rat) (Rat.divInt 1 20) (Rat.divInt 1 2) 3 = Rat.divInt 75 1 ∧ ∀ j, j < 3 → mulOk (amtS ((1000 : Int) : Rat) ((3 : Int) : Rat) (Rat.divInt 1 20) (Rat.divInt 1 2) j) (nth (amtW ((3 : Int) : Rat) (Rat.divInt 1 20) (Rat.divInt 1 2)) j) := by
  obtain ⟨m1, m2, m3⟩ := mul_smp
  obtain ⟨o1, o2, _⟩ := ok_smp
  obtain ⟨p1, p2⟩ := pos_smp
  obtain ⟨w0, w1, w2⟩ := amtW_at 1000 3 (Rat.divInt 1 20) (Rat.divInt 1 2) ⟨by decide, by decide⟩ o1 o2 p1 p2
  have s1 : amtS ((1000 : Int) : Rat) ((3 : Int) : Rat) (Rat.divInt 1 20) (Rat.divInt 1 2) 1 = ((1000 : Int) : Rat) * ((3 : Int) : Rat) := by
    show _ * nth _ 0 = _
    rw [w0]; rfl
  have s2 : amtS ((1000 : Int) : Rat) ((3 : Int) : Rat) (Rat.divInt 1 20) (Rat.divInt 1 2) 2 = ((1000 : Int) : Rat) * ((3 : Int) : Rat) * Rat.divInt 1 20 := by
    show amtS _ _ _ _ 1 * nth _ 1 = _
    rw [w1, s1]
  have s3 : amtS ((1000 : Int) : Rat) ((3 : Int) : Rat) (Rat.divInt 1 20) (Rat.divInt 1 2) 3 = ((1000 : Int) : Rat) * ((3 : Int) : Rat) * Rat.divInt 1 20 * Rat.divInt 1 2 := by
    show amtS _ _ _ _ 2 * nth _ 2 = _
    rw [w2, s2]
  refine ⟨by rw [s3]; exact rat_smp.2.2.2.2, fun j hj => ?_⟩
  have : j = 0 ∨ j = 1 ∨ j = 2 := by omega
  rcases this with rfl | rfl | rfl
  · rw [w0]; exact m1
  · rw [w1, s1]; exact m2
  · rw [w2, s2]; exact m3
theorem small_ok : ACalls Try.prog 8 [] (.pv (cB true)) := by
  have ix : ∀ n : Int, (-1000 ≤ n ∧ n ≤ 1000) → i64B n := fun n h => by unfold i64B; omega
  obtain ⟨s1, s2, s3, d1, d2, s4, s5⟩ := share_smp
  obtain ⟨o1, o2, o3, o4, o5, o6, o7, o8⟩ := ok_smp
  obtain ⟨p1, p2⟩ := pos_smp
  obtain ⟨f1, f2, f3, f4, f5, f6⟩ := fl_smp
  obtain ⟨a1, a2⟩ := amt_smp
  have c1 := share_yes 0 0 31 (by decide)
  have c2 := share_yes 1 0 31 (by decide)
  have c3 := share_yes 2 0 31 (by decide)
  have c4 := days_yes 0 30 59 (by decide)
  have c5 := days_yes 0 58 59 (by decide)
  have c6 := share_yes 1 0 365 (by decide)
  have c7 := share_yes 0 0 365 (by decide)
  rw [s1] at c1
  rw [s2] at c2
  rw [s3] at c3
  rw [d1] at c4
  rw [d2] at c5
  rw [s4] at c6
  rw [s5] at c7
  have i1 := is_yes (p := 1) (q := 12) o6 (ix _ (by omega)) (ix _ (by omega)) (by omega) rfl
  have i2 := is_yes (p := 31) (q := 365) o7 (ix _ (by omega)) (ix _ (by omega)) (by omega) rfl
  have i3 := is_yes (p := 1) (q := 1) o8 (ix _ (by omega)) (ix _ (by omega)) (by omega) rfl
  have i4 := is_yes (p := 75) (q := 1) o3 (ix _ (by omega)) (ix _ (by omega)) (by omega) rfl
  have k1 := of_ok 1 20 (ix _ (by omega)) (ix _ (by omega)) (by omega)
  have k2 := of_ok 1 2 (ix _ (by omega)) (ix _ (by omega)) (by omega)
  have k3 := of_ok 7 2 (ix _ (by omega)) (ix _ (by omega)) (by omega)
  have k4 := of_ok (-1) 2 (ix _ (by omega)) (ix _ (by omega)) (by omega)
  have m1 := amount_ok 1000 3 (Rat.divInt 1 20) (Rat.divInt 1 2) ⟨by decide, by decide⟩ o1 o2 p1 p2 a2
  rw [a1] at m1
  have g1 := fl_ok _ o3
  have g2 := fl_ok _ o4
  have g3 := fl_ok _ o5
  rw [f1, f2] at g1
  rw [f3, f4] at g2
  rw [f5, f6] at g3
  clear s1 s2 s3 s4 s5 d1 d2 o1 o2 o3 o4 o5 o6 o7 o8 p1 p2 f1 f2 f3 f4 f5 f6 a1 a2 ix
  generalize Rat.divInt 1 12 = r1 at *
  generalize Rat.divInt 31 365 = r2 at *
  generalize Rat.divInt 1 1 = r3 at *
  generalize Rat.divInt 75 1 = r4 at *
  generalize Rat.divInt 1 20 = r5 at *
  generalize Rat.divInt 1 2 = r6 at *
  generalize Rat.divInt 7 2 = r7 at *
  generalize Rat.divInt (-1) 2 = r8 at *
  refine ACalls.of_W (qs := [cB true]) [0] 138 Try.func8 (by kernel_rfl) rfl rfl rfl fun G => ?_
  refine W.initA (hw := ?_)
  repeat' (first | ((first | apply U_ | (apply Ug_; exact rfl; exact rfl) | (apply Ugq_; exact rfl; exact rfl)); (first | exact QX.B TYok | exact QX.Ext TYok | exact QCd (c1) | exact QCd (c2) | exact QCd (c3) | exact QCd (c4) | exact QCd (c5) | exact QCd (c6) | exact QCd (c7) | exact QCd (i1) | exact QCd (i2) | exact QCd (i3) | exact QCd (i4) | exact QCd (k1) | exact QCd (k2) | exact QCd (k3) | exact QCd (k4) | exact QCd (m1) | exact QCd (g1) | exact QCd (g2) | exact QCd (g3)); exact rfl) | refine SX.Alloc TYok (h := ?_) | refine SX.Store TYok (h := ?_) | refine SC ?_ | (apply S_isnil TYok; exact rfl; exact rfl; exact rfl; exact Ev.auto; intro bn hnil) | refine SG ?_ | (refine W.condA (ht := fun hb => ?_) (hf := fun hb => ?_) <;> (try simp at hb) <;> (try (exfalso; omega))))
  all_goals first
    | exact Fin.ret ResL.auto
    | trace_state
end
end Go.Proofs.Ythddpdfljjhfeaa
end
section
set_option linter.unusedVariables false
set_option linter.unusedSimpArgs false
set_option linter.unusedSectionVars false
namespace Lf
open Go Go.RowKit Go.ChangeShapes Go.WideShapes Go.ChangeAt
def allΦ (w : World) : Frz := fun b => match w.heap[b]? with | some (.cells c _ _) => some c | _ => none
theorem fits_all (w : World) : Fits (allΦ w) w := by
  intro b cs h
  unfold allΦ at h
  split at h
  · rename_i c e l he
    obtain rfl := Option.some.inj h
    exact ⟨_, _, he⟩
  · cases h
section
variable {P : Program} {T : TT} (hT : TOK P T)
include hT
end
/-- arguments, one after the other -/
def ArgsL (Φ : Frz) : List Value → List PV → Prop
  | [], [] => True
  | v :: vs, p :: ps => PRel Φ v p ∧ ArgsL Φ vs ps
  | _, _ => False
theorem ArgsL.rel {Φ : Frz} : ∀ {vs : List Value} {ps : List PV}, ArgsL Φ vs ps → vs.length = ps.length ∧ ∀ (j : Nat) (p : PV), ps[j]? = some p → ∃ v, vs[j]? = some v ∧ PRel Φ v p
  | [], [], _ => ⟨rfl, fun j p h => by simp at h⟩
  | v :: vs, p :: ps, h => by
    obtain ⟨h1, h2⟩ := ArgsL.rel h.2
    refine ⟨by simp [h1], fun j q hq => ?_⟩
    cases j with
    | zero => simp at hq; exact ⟨v, rfl, hq ▸ h.1⟩
    | succ j => simpa using h2 j q (by simpa using hq)
theorem ArgsRel.of {Φ : Frz} {vs : List Value} {ps : List PV} (h : ArgsL Φ vs ps) : ArgsRel Φ vs.toArray ps := ⟨by simpa using h.rel.1, fun j p hp => by simpa using h.rel.2 j p hp⟩
theorem ArgsL.nil {Φ : Frz} : ArgsL Φ [] [] := trivial
theorem ArgsL.cons {Φ : Frz} {v : Value} {vs : List Value} {p : PV} {ps : List PV} (h : PRel Φ v p) (hs : ArgsL Φ vs ps) : ArgsL Φ (v :: vs) (p :: ps) := ⟨h, hs⟩
end Lf
end
section
set_option linter.unusedVariables false
set_option linter.unusedSimpArgs false
set_option maxHeartbeats 8000000
namespace Go.Proofs.Ythddpdfljjhfeaa
open Lf Go
attribute [local irreducible] PureOp EffOp Ev RG W Then InBlock Lf.Fin nth App InitE Pick EvL EvD EvP EvR ResL Lf.Lex SubR SubBR FinO FinM ResM ResD FinS val pw digs trimL
section
open CalLaw
theorem jan_num (y : Int) : num y 1 1 = before y := by
  unfold num
  rw [show mdays y (1 - 1 : Int).toNat = 0 from rfl]; omega
theorem jan_date (y : Int) : IsDate y 1 1 := ⟨by decide, by decide, by decide, by show 1 ≤ last y 1; rw [show last y 1 = 31 from rfl]; decide⟩
theorem before_2400 {y : Int} (h : 1900 ≤ y ∧ y ≤ 2400) : 0 ≤ before y ∧ before y ≤ 190000 := by
  have h1 := before_mono 1900 (y - 1900).toNat
  rw [show (1900 : Int) + ((y - 1900).toNat : Int) = y by omega, before_1900] at h1
  omega
theorem th_jan {y : Int} (h : 1900 ≤ y ∧ y ≤ 2400) : th (before y) = 360 * y + 31 := by
  have r := before_2400 h
  rw [th_at (jan_date y) (jan_num y) (by omega)]
  unfold thirty
  omega
theorem lp_year {y : Int} (h : 1900 ≤ y ∧ y < 2400) : lp (before (y + 1)) - lp (before y) = if leap y then 366 else 0 := by
  have k : y = 1900 + (((y - 1900).toNat : Nat) : Int) := by omega
  generalize (y - 1900).toNat = n at k
  subst k
  have e1 := lp_at (n := before (1900 + (n : Int))) (k := n) (by omega) (Int.le_refl _)
  have e2 := lp_at (n := before (1900 + (n : Int) + 1)) (k := n + 1) (by omega) (by rw [show 1900 + (((n + 1 : Nat)) : Int) = 1900 + (n : Int) + 1 by omega]; exact Int.le_refl _)
  have e3 := lpd_past (n := before (1900 + (n : Int) + 1)) (k := n) (by rw [before_succ]; exact Int.le_refl _)
  have e4 := lpd_at (n := before (1900 + (n : Int) + 1)) n (by rw [before_succ]; have := yl_rng (1900 + (n : Int)); omega)
  rw [← e1, ← e2, e3, e4]
  omega
theorem rat_year : Rat.divInt 360 360 = Rat.divInt 1 1 ∧ Rat.divInt 365 365 = Rat.divInt 1 1 ∧ Rat.divInt 366 365 ≠ Rat.divInt 1 1 ∧ Rat.divInt 366 366 + Rat.divInt 0 365 = Rat.divInt 1 1 ∧ Rat.divInt 0 366 + Rat.divInt 365 365 = Rat.divInt 1 1 := by decide +kernel
theorem span_year {c y : Int} (hc : 0 ≤ c ∧ c < 3) (h : 1900 ≤ y ∧ y < 2400) : spanP c (before y) (before (y + 1)) := by
  have r := before_2400 (y := y) (by omega)
  have r2 := before_2400 (y := y + 1) (by omega)
  have s := before_succ y
  have t := yl_rng y
  exact ⟨by omega, by omega, by omega⟩
theorem share_year {c y : Int} (hc : 0 ≤ c ∧ c < 3) (h : 1900 ≤ y ∧ y < 2400) : decide (shareV c (before y) (before (y + 1)) = Rat.divInt 1 1) = (!decide (c = 1) || !leap y) := by
  have s := before_succ y
  have l := lp_year h
  have t1 := th_jan (y := y) (by omega)
  have t2 := th_jan (y := y + 1) (by omega)
  obtain ⟨r1, r2, r3, r4, r5⟩ := rat_year
  have cc : c = 0 ∨ c = 1 ∨ c = 2 := by omega
  rcases cc with rfl | rfl | rfl
  · have e : shareV 0 (before y) (before (y + 1)) = Rat.divInt 360 360 := by
      show Rat.divInt (th (before (y + 1)) - th (before y)) 360 = _
      rw [t1, t2, show 360 * (y + 1) + 31 - (360 * y + 31) = 360 by omega]
    rw [e, decide_eq_true r1]; rfl
  · have e : shareV 1 (before y) (before (y + 1)) = Rat.divInt (yl y) 365 := by
      show Rat.divInt (before (y + 1) - before y) 365 = _
      rw [s, show before y + yl y - before y = yl y by omega]
    rw [e]
    cases hb : leap y with
    | true => rw [show yl y = 366 from if_pos hb, decide_eq_false r3]; rfl
    | false => rw [show yl y = 365 from if_neg (by rw [hb]; decide), decide_eq_true r2]; rfl
  · have e : shareV 2 (before y) (before (y + 1)) = Rat.divInt (lp (before (y + 1)) - lp (before y)) 366 + Rat.divInt (yl y - (lp (before (y + 1)) - lp (before y))) 365 := by
      show Rat.divInt (lp (before (y + 1)) - lp (before y)) 366 + Rat.divInt (before (y + 1) - before y - (lp (before (y + 1)) - lp (before y))) 365 = _
      rw [s, show before y + yl y - before y = yl y by omega]
    rw [e, l]
    cases hb : leap y with
    | true => rw [show yl y = 366 from if_pos hb, if_pos rfl, decide_eq_true (by exact r4)]; rfl
    | false => rw [show yl y = 365 from if_neg (by rw [hb]; decide), if_neg (by decide), decide_eq_true (by exact r5)]; rfl
theorem rat_zero : Rat.divInt 0 360 = Rat.divInt 0 1 ∧ Rat.divInt 0 365 = Rat.divInt 0 1 ∧ Rat.divInt 0 366 + Rat.divInt 0 365 = Rat.divInt 0 1 := by decide +kernel
theorem share_none (c a : Int) : shareV c a a = Rat.divInt 0 1 := by
  obtain ⟨r1, r2, r3⟩ := rat_zero
  have e : daysV c a a = 0 := by unfold daysV; split <;> omega
  unfold shareV
  rw [e, show lp a - lp a = 0 by omega]
  split
  · exact r1
  · split
    · exact r2
    · exact r3
/-- some months later -/
theorem month_later {y m d k : Int} (hd : IsDate y m d) (h28 : d ≤ 28) (hk : 0 ≤ k) : IsDate ((12 * y + m - 1 + k) / 12) ((12 * y + m - 1 + k) % 12 + 1) d ∧ min d (last ((12 * y + m - 1 + k) / 12) ((12 * y + m - 1 + k) % 12 + 1)) = d := by
  have m1 := hd.m1
  have m2 := hd.m12
  have d1 := hd.d1
  have lr := last_rng ((12 * y + m - 1 + k) / 12) ((12 * y + m - 1 + k) % 12 + 1) (by omega)
  exact ⟨⟨by omega, by omega, d1, by omega⟩, by omega⟩
theorem thirty_later {y m d k : Int} (hd : IsDate y m d) (h28 : d ≤ 28) : thirty ((12 * y + m - 1 + k) / 12) ((12 * y + m - 1 + k) % 12 + 1) d = thirty y m d + 30 * k := by
  unfold thirty
  omega
theorem divInt_30 (k : Int) : Rat.divInt (30 * k) 360 = Rat.divInt k 12 := by
  have := Rat.divInt_mul_left (n := k) (d := 12) (a := 30) (by decide)
  exact this
attribute [local irreducible] sgn mag gcdZ quoZ remZ fullZ fullE flV flE
theorem dof_jan {y : Int} (h : 1900 ≤ y ∧ y ≤ 2400) : dofV y 1 1 = before y ∧ dofE y 1 1 = 0 := by
  have r := before_2400 h
  have el : last y 1 = 31 := rfl
  unfold dofV dofE
  rw [jan_num, if_pos ⟨by omega, by omega, by omega⟩, if_pos (by omega), if_pos ⟨by omega, by omega⟩]
  exact ⟨rfl, rfl⟩
theorem before_2448 {y : Int} (h : 2448 ≤ y) : 200153 ≤ before y := by
  have h1 := before_mono 2448 (y - 2448).toNat
  rw [show (2448 : Int) + ((y - 2448).toNat : Int) = y by omega, show before 2448 = 200153 by decide] at h1
  omega
/-- what the second half looks at -/
inductive Half (y m d w : Int) : Prop
  | no (V E : Int) (o : ACalls Try.prog 20 [cI y, cI m, cI d] (.tup [cI V, cI E])) (h : E = 0 ∧ d ≤ 28 → False)
  | far (V V2 E2 : Int) (o : ACalls Try.prog 20 [cI y, cI m, cI d] (.tup [cI V, cI 0])) (a : ACalls Try.prog 23 [cI V, cI w] (.tup [cI V2, cI E2])) (hd : d ≤ 28) (h : E2 = 0 → False)
  | fin (V V2 : Int) (R : Rat) (o : ACalls Try.prog 20 [cI y, cI m, cI d] (.tup [cI V, cI 0])) (a : ACalls Try.prog 23 [cI V, cI w] (.tup [cI V2, cI 0])) (hd : d ≤ 28) (s : ACalls Try.prog 12 [cI 0, cI V, cI V2] (.tup [zF R, cI 0])) (i : ACalls Try.prog 21 [zF R, cI 0, cI w, cI 12] (.pv (cB true)))
theorem half_ok (y m d w : Int) (hw : 0 ≤ w ∧ w ≤ 255) : Half y m d w := by
  have o3 := dof_ok y m d
  by_cases h : dofE y m d = 0 ∧ d ≤ 28
  case neg => exact .no _ _ o3 h
  obtain ⟨h0, h28⟩ := h
  have hin : 1 ≤ d ∧ d ≤ last y m := by
    rcases Classical.em (1 ≤ d ∧ d ≤ last y m) with k | k
    · exact k
    · rw [show dofE y m d = 23 from if_neg k] at h0; cases h0
  have hy : (1900 ≤ y ∧ y ≤ 3000) ∧ num y m d ≤ 200000 := by
    rcases Classical.em ((1900 ≤ y ∧ y ≤ 3000) ∧ num y m d ≤ 200000) with k | k
    · exact k
    · unfold dofE at h0
      rw [if_pos hin, if_neg k] at h0; cases h0
  have hm := last_in hin
  have hd : IsDate y m d := ⟨hm.1, hm.2, hin.1, hin.2⟩
  have hyr := hd.year
  have b0 := before_rng hy.1
  have hy2 : y ≤ 2447 := by
    rcases Int.lt_or_le 2447 y with k | k
    · have := before_2448 (y := y) (by omega); omega
    · exact k
  have e1 : dofV y m d = num y m d := if_pos ⟨hin, hy⟩
  rw [e1, h0] at o3
  have nr : 0 ≤ num y m d ∧ num y m d ≤ 200000 := by omega
  have a1 := addm_ok (num y m d) y m d w nr ⟨by omega, hy2⟩ hd rfl hw
  obtain ⟨hd2, em⟩ := month_later (k := w) hd h28 hw.1
  rw [em] at a1
  have t2 := thirty_later (k := w) hd h28
  generalize (12 * y + m - 1 + w) / 12 = y2 at *
  generalize (12 * y + m - 1 + w) % 12 + 1 = m2 at *
  by_cases k2 : dofE y2 m2 d = 0
  case neg => exact .far _ _ _ o3 a1 h28 k2
  have hin2 : 1 ≤ d ∧ d ≤ last y2 m2 := ⟨hd2.d1, hd2.dl⟩
  have hy3 : (1900 ≤ y2 ∧ y2 ≤ 3000) ∧ num y2 m2 d ≤ 200000 := by
    rcases Classical.em ((1900 ≤ y2 ∧ y2 ≤ 3000) ∧ num y2 m2 d ≤ 200000) with k | k
    · exact k
    · unfold dofE at k2
      rw [if_pos hin2, if_neg k] at k2; cases k2
  have e2 : dofV y2 m2 d = num y2 m2 d := if_pos ⟨hin2, hy3⟩
  rw [e2, k2] at a1
  have hyr2 := hd2.year
  have b2 := before_rng hy3.1
  have nr2 : 0 ≤ num y2 m2 d ∧ num y2 m2 d ≤ 200000 := by omega
  have t3 := th_at hd rfl nr
  have t4 := th_at hd2 rfl nr2
  have hle : num y m d ≤ num y2 m2 d := by
    rcases Int.lt_or_le (num y2 m2 d) (num y m d) with k | k
    · exfalso
      have q := thirty_mono hd2 hd (by omega)
      have w0 : w = 0 := by omega
      have e : thirty y2 m2 d = thirty y m d := by omega
      unfold thirty at e
      have x1 := hd.m1
      have x2 := hd.m12
      have x3 := hd2.m1
      have x4 := hd2.m12
      obtain rfl : y2 = y := by omega
      obtain rfl : m2 = m := by omega
      omega
    · exact k
  have sp : spanP 0 (num y m d) (num y2 m2 d) := ⟨by omega, by omega, by omega⟩
  have sh := share_yes 0 _ _ sp
  have es : shareV 0 (num y m d) (num y2 m2 d) = Rat.divInt w 12 := by
    show Rat.divInt (th (num y2 m2 d) - th (num y m d)) 360 = _
    rw [t3, t4, t2, show thirty y m d + 30 * w - thirty y m d = 30 * w by omega, divInt_30]
  exact .fin _ _ _ o3 a1 h28 sh (is_yes (bd_ok (share_bd sp) (by omega)) (by unfold i64B; omega) (by unfold i64B; omega) (by omega) es)
theorem years_ok (y m d w : Int) (hw : 0 ≤ w ∧ w ≤ 255) : ACalls Try.prog 5 [cI y, cI m, cI d, .one (.int .u8 w)] (.pv (cB true)) := by
  have h0 := small_ok
  have hh := half_ok y m d w hw
  by_cases hy : 1900 ≤ y ∧ y < 2400
  case neg =>
    have o1 := dof_ok y 1 1
    have o2 := dof_ok (IntKind.i64.wrap (y + 1)) 1 1
    generalize dofV y 1 1 = A at *
    generalize dofE y 1 1 = EA at *
    generalize dofV (IntKind.i64.wrap (y + 1)) 1 1 = B at *
    generalize dofE (IntKind.i64.wrap (y + 1)) 1 1 = EB at *
    have hbad : ((1900 ≤ y ∧ y < 2400) ∧ EA = 0) ∧ EB = 0 → False := fun q => hy q.1.1
    clear hy
    rcases hh with ⟨V, E, o, h⟩ | ⟨V, V2, E2, o, a, hd, h⟩ | ⟨V, V2, R, o, a, hd, s, i⟩
    case no =>
      refine ACalls.of_W (qs := [cB true]) [8] 141 Try.func5 (by kernel_rfl) rfl rfl rfl fun G => ?_
      refine W.initA (hw := ?_)
      repeat' (first | ((first | apply U_ | (apply Ug_; exact rfl; exact rfl) | (apply Ugq_; exact rfl; exact rfl)); (first | exact QX.B TYok | exact QX.Ext TYok | exact QX.Conv TYok | exact QCd (h0) | exact QCd (o1) | exact QCd (o2) | exact QCd (o)); exact rfl) | refine SX.Alloc TYok (h := ?_) | refine SX.Store TYok (h := ?_) | refine SC ?_ | (apply S_isnil TYok; exact rfl; exact rfl; exact rfl; exact Ev.auto; intro bn hnil) | refine SG ?_ | (refine W.condA (ht := fun hb => ?_) (hf := fun hb => ?_) <;> (try simp at hb) <;> (try (exfalso; first | exact hbad hb | exact h hb | omega))))
      all_goals first
        | exact Fin.ret ResL.auto
        | trace_state
    case far =>
      refine ACalls.of_W (qs := [cB true]) [8] 141 Try.func5 (by kernel_rfl) rfl rfl rfl fun G => ?_
      refine W.initA (hw := ?_)
      repeat' (first | ((first | apply U_ | (apply Ug_; exact rfl; exact rfl) | (apply Ugq_; exact rfl; exact rfl)); (first | exact QX.B TYok | exact QX.Ext TYok | exact QX.Conv TYok | exact QCd (h0) | exact QCd (o1) | exact QCd (o2) | exact QCd (o) | exact QCd (a)); exact rfl) | refine SX.Alloc TYok (h := ?_) | refine SX.Store TYok (h := ?_) | refine SC ?_ | (apply S_isnil TYok; exact rfl; exact rfl; exact rfl; exact Ev.auto; intro bn hnil) | refine SG ?_ | (refine W.condA (ht := fun hb => ?_) (hf := fun hb => ?_) <;> (try simp at hb) <;> (try (exfalso; first | exact hbad hb | exact h hb | omega))))
      all_goals first
        | exact Fin.ret ResL.auto
        | trace_state
    case fin =>
      refine ACalls.of_W (qs := [cB true]) [8] 141 Try.func5 (by kernel_rfl) rfl rfl rfl fun G => ?_
      refine W.initA (hw := ?_)
      repeat' (first | ((first | apply U_ | (apply Ug_; exact rfl; exact rfl) | (apply Ugq_; exact rfl; exact rfl)); (first | exact QX.B TYok | exact QX.Ext TYok | exact QX.Conv TYok | exact QCd (h0) | exact QCd (o1) | exact QCd (o2) | exact QCd (o) | exact QCd (a) | exact QCd (s) | exact QCd (i)); exact rfl) | refine SX.Alloc TYok (h := ?_) | refine SX.Store TYok (h := ?_) | refine SC ?_ | (apply S_isnil TYok; exact rfl; exact rfl; exact rfl; exact Ev.auto; intro bn hnil) | refine SG ?_ | (refine W.condA (ht := fun hb => ?_) (hf := fun hb => ?_) <;> (try simp at hb) <;> (try (exfalso; first | exact hbad hb | omega))))
      all_goals first
        | exact Fin.ret ResL.auto
        | trace_state
  have o1 := dof_ok y 1 1
  have o2 := dof_ok (y + 1) 1 1
  obtain ⟨j1, j2⟩ := dof_jan (y := y) (by omega)
  obtain ⟨j3, j4⟩ := dof_jan (y := y + 1) (by omega)
  rw [j1, j2] at o1
  rw [j3, j4] at o2
  have l1 := isLeap_ok y
  have rA := before_2400 (y := y) (by omega)
  have rB := before_2400 (y := y + 1) (by omega)
  have hAB : before y < before (y + 1) := by rw [before_succ]; have := yl_rng y; omega
  have hsh := fun k : Int => fun hk : 0 ≤ k ∧ k < 3 => share_year hk hy
  have hsp := fun k : Int => fun hk : 0 ≤ k ∧ k < 3 => span_year hk hy
  clear j1 j2 j3 j4
  generalize before y = A at *
  generalize before (y + 1) = B at *
  generalize leap y = b at *
  refine ACalls.of_W (qs := [cB true]) [8] 141 Try.func5 (by kernel_rfl) rfl rfl rfl fun G => ?_
  refine W.initA (hw := ?_)
  repeat' (first | ((first | apply U_ | (apply Ug_; exact rfl; exact rfl) | (apply Ugq_; exact rfl; exact rfl)); (first | exact QX.B TYok | exact QX.Ext TYok | exact QX.Conv TYok | exact QCd (h0) | exact QCd (o1) | exact QCd (o2)); exact rfl) | refine SX.Alloc TYok (h := ?_) | refine SX.Store TYok (h := ?_) | refine SC ?_ | (apply S_isnil TYok; exact rfl; exact rfl; exact rfl; exact Ev.auto; intro bn hnil) | refine SG ?_ | (refine W.condA (ht := fun hb => ?_) (hf := fun hb => ?_) <;> (try simp at hb) <;> (try (exfalso; omega))))
  apply W.loopP (σ := Nat) 141 [0, 1, 2, 3, 9, 10, 12] (fun k => k ≤ 3) (fun k => [(14, vI k)]) (fun _ => []) (fun k => 3 - k) (0)
  case hp => repeat (first | exact Pick.nil | apply Pick.cons rfl)
  case h0 =>
    refine ⟨by omega, ?_⟩
    exact Le.auto
  case round =>
    rintro k gk
    apply W.norm (by repeat (first | exact App.nil | apply App.cons))
    by_cases hk : k < 3
    · have s1 := share_yes k A B (hsp k (by omega))
      have i1 := is_ok (shareV k A B) 0 1 1 (bd_ok (share_bd (hsp k (by omega))) (by omega)) (by unfold i64B; omega) (by unfold i64B; omega) (by omega)
      rw [hsh k (by omega), decide_eq_true rfl, Bool.true_and] at i1
      have spa : spanP k A A := ⟨by omega, by omega, by omega⟩
      have s2 := share_yes k A A spa
      have i2 := is_yes (bd_ok (share_bd spa) (by omega)) (by unfold i64B; omega) (by unfold i64B; omega) (by omega) (share_none k A)
      have s3 := share_no k B A (fun q => by have := q.2.1; omega)
      generalize shareV k A B = S1 at *
      generalize shareV k A A = S2 at *
      repeat' (first | ((first | apply U_ | (apply Ug_; exact rfl; exact rfl) | (apply Ugq_; exact rfl; exact rfl)); (first | exact QX.B TYok | exact QX.Ext TYok | exact QX.Conv TYok | exact QCd (s1) | exact QCd (i1) | exact QCd (l1) | exact QCd (s2) | exact QCd (i2) | exact QCd (s3)); exact rfl) | refine SX.Alloc TYok (h := ?_) | refine SX.Store TYok (h := ?_) | refine SC ?_ | (apply S_isnil TYok; exact rfl; exact rfl; exact rfl; exact Ev.auto; intro bn hnil) | refine SG ?_ | (refine W.condA (ht := fun hb => ?_) (hf := fun hb => ?_) <;> (try simp at hb) <;> (try (exfalso; omega))))
      all_goals first
        | (refine ⟨k + 1, by omega, ?_, by omega⟩; exact Le.auto)
        | trace_state
    · obtain rfl : k = 3 := by omega
      rcases hh with ⟨V, E, o, h⟩ | ⟨V, V2, E2, o, a, hd, h⟩ | ⟨V, V2, R, o, a, hd, s, i⟩
      case no =>
        repeat' (first | ((first | apply U_ | (apply Ug_; exact rfl; exact rfl) | (apply Ugq_; exact rfl; exact rfl)); (first | exact QX.B TYok | exact QX.Ext TYok | exact QX.Conv TYok | exact QCd (o)); exact rfl) | refine SX.Alloc TYok (h := ?_) | refine SX.Store TYok (h := ?_) | refine SC ?_ | (apply S_isnil TYok; exact rfl; exact rfl; exact rfl; exact Ev.auto; intro bn hnil) | refine SG ?_ | (refine W.condA (ht := fun hb => ?_) (hf := fun hb => ?_) <;> (try simp at hb) <;> (try (exfalso; first | exact h hb | omega))))
        all_goals first
          | exact Fin.ret ResL.auto
          | trace_state
      case far =>
        repeat' (first | ((first | apply U_ | (apply Ug_; exact rfl; exact rfl) | (apply Ugq_; exact rfl; exact rfl)); (first | exact QX.B TYok | exact QX.Ext TYok | exact QX.Conv TYok | exact QCd (o) | exact QCd (a)); exact rfl) | refine SX.Alloc TYok (h := ?_) | refine SX.Store TYok (h := ?_) | refine SC ?_ | (apply S_isnil TYok; exact rfl; exact rfl; exact rfl; exact Ev.auto; intro bn hnil) | refine SG ?_ | (refine W.condA (ht := fun hb => ?_) (hf := fun hb => ?_) <;> (try simp at hb) <;> (try (exfalso; first | exact h hb | omega))))
        all_goals first
          | exact Fin.ret ResL.auto
          | trace_state
      case fin =>
        repeat' (first | ((first | apply U_ | (apply Ug_; exact rfl; exact rfl) | (apply Ugq_; exact rfl; exact rfl)); (first | exact QX.B TYok | exact QX.Ext TYok | exact QX.Conv TYok | exact QCd (o) | exact QCd (a) | exact QCd (s) | exact QCd (i)); exact rfl) | refine SX.Alloc TYok (h := ?_) | refine SX.Store TYok (h := ?_) | refine SC ?_ | (apply S_isnil TYok; exact rfl; exact rfl; exact rfl; exact Ev.auto; intro bn hnil) | refine SG ?_ | (refine W.condA (ht := fun hb => ?_) (hf := fun hb => ?_) <;> (try simp at hb) <;> (try (exfalso; omega))))
        all_goals first
          | exact Fin.ret ResL.auto
          | trace_state
end
end Go.Proofs.Ythddpdfljjhfeaa
end
