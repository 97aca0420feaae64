/-
  What the laws share
-/
import Derived.Test.YtionjeodcmnneaaSm
import Derived.Test.YtionjeodcmnneaaRd
set_option linter.unusedVariables false
set_option linter.unusedSimpArgs false
set_option maxHeartbeats 8000000
namespace Go.Proofs.Ytionjeodcmnneaa
open Lf Go
attribute [local irreducible] PureOp EffOp Ev RG W Then InBlock Lf.Fin nth App InitE Pick SubE SubF SubG EvL EvD EvP EvR ResL Lf.Lex SubR SubBR RA RAll EvC FinO FinM ResM FinB ResD

/-! ### BindTells -/
structure OkL (l : List Ind) : Prop where
  ok : ∀ x ∈ l, OkN x
  len : l.length ≤ 9223372036854775807
theorem few_sm {x : Ind} (h : fewN x = true) : x.lets.length ≤ 1000 ∧ x.covs.length ≤ 1000 := by
  have : fewH x = true := by
    unfold fewN at h
    simp only [Bool.and_eq_true] at h
    exact h.1.1.1
  have := (fewH_iff x).1 this
  omega
theorem few_all {o f : List Ind} {n : Int} (h : fewAll o f n = true) : (o.length : Int) ≤ n ∧ (f.length : Int) ≤ n ∧ (∀ x ∈ o, fewN x = true) ∧ ∀ x ∈ f, fewN x = true := by
  simp only [fewAll, Bool.and_eq_true, decide_eq_true_iff, List.all_eq_true] at h
  exact ⟨h.1.1.1, h.1.1.2, h.1.2, h.2⟩
theorem few_args {o f : List Ind} {y t : List Int} (ho : OkL o) (hf : OkL f) (h : fewB o f y t = true) : Args o f ∧ o.length ≤ 5 ∧ f.length ≤ 5 ∧ y.length ≤ 10 ∧ t.length ≤ 10 := by
  simp only [fewB, Bool.and_eq_true, decide_eq_true_iff] at h
  obtain ⟨⟨h1, h2⟩, h3⟩ := h
  obtain ⟨g1, g2, g3, g4⟩ := few_all h1
  exact ⟨⟨ho.ok, hf.ok, fun x hx => few_sm (g3 x hx), fun x hx => few_sm (g4 x hx), ho.len, hf.len⟩, by omega, by omega, by omega, by omega⟩
theorem binds_len (o f : List Ind) (y t : List Int) : (bindsF o f y t).1.length ≤ o.length := by
  unfold bindsF
  split
  · simp [bindsL]
  · simp
end Go.Proofs.Ytionjeodcmnneaa
