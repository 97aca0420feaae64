/-
  BindVotes: the plain law
-/
import Derived.Test.YtionjeodcmnneaaVt
import Derived.Test.YtionjeodcmnneaaAp
set_option linter.unusedVariables false
set_option linter.unusedSimpArgs false
set_option maxHeartbeats 8000000
namespace Go.Proofs.Ytionjeodcmnneaa
open Lf Go
attribute [local irreducible] PureOp EffOp Ev RG W Then InBlock Lf.Fin nth App InitE Pick SubE SubF SubG EvL EvD EvP EvR ResL Lf.Lex SubR SubBR RA RAll EvC FinO FinM ResM FinB ResD

theorem own_eq (a b : Ind) (y t : Int) : gotF a b y t = (!sameN a b && reachF (if resF a b = true then a.majority else 501) y t) := by
  unfold gotF needF
  cases h : sameN a b with
  | true =>
    rw [if_pos rfl]
    unfold reachF fineF
    simp
  | false => rw [if_neg (by decide)]; rfl
/-! ### BindVotes: the plain law -/
def lastDay : Int → List Vo → Int
  | d, [] => d
  | _, v :: r => lastDay v.day r
theorem lastDay_last : ∀ (vs : List Vo) (d : Int), 0 < vs.length → lastDay d vs = (nth vs (vs.length - 1)).day
  | [], _, h => absurd h (by simp)
  | [v], d, _ => by simp [lastDay, nth]
  | v :: w :: r, d, _ => by
    rw [lastDay, lastDay_last (w :: r) v.day (by simp)]
    simp [nth]
theorem vsOk_app (L : Int) (v : Vo) : ∀ (vs : List Vo) (d : Int), vsOk L d (vs ++ [v]) = (vsOk L d vs && (decide (0 ≤ v.seat) && decide (v.seat < L) && decide (lastDay d vs ≤ v.day) && decide (v.day ≤ 200000)))
  | [], d => by
    simp only [List.nil_append, vsOk, lastDay, Bool.and_true, Bool.true_and]; rfl
  | w :: r, d => by
    rw [List.cons_append, vsOk, vsOk_app L v r w.day, vsOk, lastDay]
    simp only [Bool.and_assoc]
theorem lastDay_app (v : Vo) : ∀ (vs : List Vo) (d : Int), lastDay d (vs ++ [v]) = v.day
  | [], _ => rfl
  | w :: r, _ => by rw [List.cons_append, lastDay, lastDay_app v r]
theorem right_app {us : List Int} {vs : List Vo} {s d : Int} {b : Bool} (h1 : 0 ≤ s) (h2 : s < us.length) (h3 : d ≤ 200000) (h4 : lastDay 0 vs ≤ d) (h5 : vs.length ≤ 1000) : rightV us (vs ++ [⟨s, d, b⟩]) = rightV us vs := by
  unfold rightV
  rw [vsOk_app, decide_eq_true h1, decide_eq_true h2, decide_eq_true h4, decide_eq_true h3, decide_eq_true (p := ((vs ++ [(⟨s, d, b⟩ : Vo)]).length : Int) ≤ 2000) (by simp; omega), decide_eq_true (p := (vs.length : Int) ≤ 2000) (by omega)]
  simp
theorem lastB_add (vs : List Vo) (k s d : Int) (b : Bool) : lastB k d false (vs ++ [⟨s, d, b⟩]) = if s = k then b else lastB k d false vs := by
  rw [lastB_append, lastB, lastB]
  by_cases h : s = k
  · rw [if_pos ⟨h, Int.le_refl _⟩, if_pos h]
  · rw [if_neg (fun q => h q.1), if_neg h]
theorem yesS_cong {us : List Int} {A B : List Vo} {d : Int} : ∀ n, (∀ k : Nat, k < n → lastB k d false A = lastB k d false B) → yesS us A d n = yesS us B d n
  | 0, _ => rfl
  | n + 1, h => by rw [yesS, yesS, yesS_cong n (fun k hk => h k (by omega)), h n (by omega)]
theorem yesS_up {us : List Int} {A B : List Vo} {d : Int} {s : Nat} (h : ∀ k : Nat, k ≠ s → lastB k d false A = lastB k d false B) (hA : lastB s d false A = true) (hB : lastB s d false B = false) : ∀ n, yesS us A d n = yesS us B d n + if s < n then nth us s else 0
  | 0 => by simp [yesS]
  | n + 1 => by
    rw [yesS, yesS, yesS_up h hA hB n]
    by_cases e : n = s
    · subst e
      rw [hA, hB, if_neg (Nat.lt_irrefl _), if_pos (Nat.lt_succ_self _)]; simp
    · rw [h n e]
      by_cases g : s < n
      · rw [if_pos (c := s < n) g, if_pos (c := s < n + 1) (by omega)]; omega
      · rw [if_neg (c := s < n) g, if_neg (c := s < n + 1) (by omega)]; omega
structure Three (us : List Int) (vs : List Vo) (s d a u T : Int) : Prop where
  one : tallyF us (vs ++ [⟨s, d, false⟩]) d = (a, T, 0)
  two : tallyF us ((vs ++ [⟨s, d, false⟩]) ++ [⟨s, d, true⟩]) d = (a + u, T, 0)
  three : tallyF us (((vs ++ [⟨s, d, false⟩]) ++ [⟨s, d, true⟩]) ++ [⟨s, d, false⟩]) d = (a, T, 0)
  lo : 0 ≤ a
  un : 0 ≤ u
  hi : a + u ≤ T
  top : T ≤ 1000000000 * 12
theorem three_yes {us : List Int} {vs : List Vo} {s d : Int} (h1 : 0 ≤ s) (h2 : s < us.length) (h3 : d ≤ 200000) (h4 : lastDay 0 vs ≤ d) (h5 : vs.length ≤ 20) (h6 : us.length ≤ 12) (hr : rightV us vs = true) : ∃ a T, Three us vs s d a (nth us s.toNat) T := by
  have r1 : rightV us (vs ++ [⟨s, d, false⟩]) = true := by rw [right_app h1 h2 h3 h4 (by omega)]; exact hr
  have r2 : rightV us ((vs ++ [⟨s, d, false⟩]) ++ [⟨s, d, true⟩]) = true := by rw [right_app h1 h2 h3 (by rw [lastDay_app]; exact Int.le_refl _) (by simp; omega)]; exact r1
  have r3 : rightV us (((vs ++ [⟨s, d, false⟩]) ++ [⟨s, d, true⟩]) ++ [⟨s, d, false⟩]) = true := by rw [right_app h1 h2 h3 (by rw [lastDay_app]; exact Int.le_refl _) (by simp; omega)]; exact r2
  have hu := rightV_us hr
  have hsn : ((s.toNat : Nat) : Int) = s := by omega
  have e2 : yesS us ((vs ++ [⟨s, d, false⟩]) ++ [⟨s, d, true⟩]) d us.length = yesS us (vs ++ [⟨s, d, false⟩]) d us.length + nth us s.toNat := by
    rw [yesS_up (B := vs ++ [⟨s, d, false⟩]) (s := s.toNat) (fun k hk => by rw [lastB_add _ _ _ _ true, if_neg (by omega)]) (by rw [lastB_add, if_pos (by omega)]) (by rw [lastB_add, if_pos (by omega)]), if_pos (by omega)]
  have e3 : yesS us (((vs ++ [⟨s, d, false⟩]) ++ [⟨s, d, true⟩]) ++ [⟨s, d, false⟩]) d us.length = yesS us (vs ++ [⟨s, d, false⟩]) d us.length :=
    yesS_cong _ fun k _ => by
      rw [lastB_add, lastB_add _ _ _ _ true, lastB_add]
      by_cases e : s = (k : Int)
      · rw [if_pos e, if_pos e]
      · rw [if_neg e, if_neg e, if_neg e]
  have b1 := sumS_bound hu.1 (vs ++ [⟨s, d, false⟩]) d us.length (Nat.le_refl _)
  have b2 := sumS_bound hu.1 ((vs ++ [⟨s, d, false⟩]) ++ [⟨s, d, true⟩]) d us.length (Nat.le_refl _)
  have b3 := usOk_nth hu.1 (k := s.toNat) (by omega)
  refine ⟨yesS us (vs ++ [⟨s, d, false⟩]) d us.length, sumS us us.length, ?_, ?_, ?_, b1.1, b3.1, by rw [← e2]; exact b2.2.1, by omega⟩
  · rw [tallyF, if_pos r1]
  · rw [tallyF, if_pos r2, e2]
  · rw [tallyF, if_pos r3, e3]
theorem three_no {us : List Int} {vs : List Vo} {s d : Int} (h1 : 0 ≤ s) (h2 : s < us.length) (h3 : d ≤ 200000) (h4 : lastDay 0 vs ≤ d) (h5 : vs.length ≤ 20) (hr : ¬ rightV us vs = true) :
    tallyF us (vs ++ [⟨s, d, false⟩]) d = (0, 0, 1) ∧ tallyF us ((vs ++ [⟨s, d, false⟩]) ++ [⟨s, d, true⟩]) d = (0, 0, 1) ∧ tallyF us (((vs ++ [⟨s, d, false⟩]) ++ [⟨s, d, true⟩]) ++ [⟨s, d, false⟩]) d = (0, 0, 1) := by
  have r1 : ¬ rightV us (vs ++ [⟨s, d, false⟩]) = true := by rw [right_app h1 h2 h3 h4 (by omega)]; exact hr
  have r2 : ¬ rightV us ((vs ++ [⟨s, d, false⟩]) ++ [⟨s, d, true⟩]) = true := by rw [right_app h1 h2 h3 (by rw [lastDay_app]; exact Int.le_refl _) (by simp; omega)]; exact r1
  have r3 : ¬ rightV us (((vs ++ [⟨s, d, false⟩]) ++ [⟨s, d, true⟩]) ++ [⟨s, d, false⟩]) = true := by rw [right_app h1 h2 h3 (by rw [lastDay_app]; exact Int.le_refl _) (by simp; omega)]; exact r2
  refine ⟨?_, ?_, ?_⟩
  · rw [tallyF, if_neg r1]
  · rw [tallyF, if_neg r2]
  · rw [tallyF, if_neg r3]
theorem one_out (a b : Ind) (y t : Int) : bindsL [a] [b] [y] [t] = [gotF a b y t] := by
  have h := alone_out [a] [b] [y] [t] 0
  have e : ∀ {α : Type} [Inhabited α] (x : α), nth [x] 0 = x := fun x => by simp [nth]
  rw [e, e, e, e, gotK, e, e, e, e] at h
  unfold bindsL
  rw [show [a].length = 1 from rfl, show List.range 1 = [0] from rfl, List.map_cons, List.map_nil, h]
theorem err_one (a b : Ind) (y y' t : Int) : errB [a] [b] [y] [t] = errB [a] [b] [y'] [t] := rfl
theorem got_up {a b : Ind} {y y' t : Int} (h : y ≤ y') (h' : y' ≤ t) (g : gotF a b y t = true) : gotF a b y' t = true := by
  rw [own_eq, Bool.and_eq_true] at g ⊢
  refine ⟨g.1, ?_⟩
  have g2 := g.2
  generalize (if resF a b = true then a.majority else 501) = m at g2 ⊢
  unfold reachF at g2 ⊢
  rw [Bool.and_eq_true, fineF_iff, decide_eq_true_iff] at g2 ⊢
  omega
end Go.Proofs.Ytionjeodcmnneaa
