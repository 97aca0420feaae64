/-
  BindApart: the plain law
-/
import Derived.Test.YtionjeodcmnneaaPre
set_option linter.unusedVariables false
set_option linter.unusedSimpArgs false
set_option maxHeartbeats 8000000
namespace Go.Proofs.Ytionjeodcmnneaa
open Lf Go
attribute [local irreducible] PureOp EffOp Ev RG W Then InBlock Lf.Fin nth App InitE Pick SubE SubF SubG EvL EvD EvP EvR ResL Lf.Lex SubR SubBR RA RAll EvC FinO FinM ResM FinB ResD

theorem binds_zero {o f : List Ind} {y t : List Int} (he : errB o f y t = 0) : (bindsF o f y t) = (bindsL o f y t, 0) := by rw [bindsF, if_pos he]
theorem binds_err {o f : List Ind} {y t : List Int} (he : ¬ errB o f y t = 0) : (bindsF o f y t) = ([], errB o f y t) := by rw [bindsF, if_neg he]
theorem nth_binds {o f : List Ind} {y t : List Int} {k : Nat} (hk : k < o.length) : nth (bindsL o f y t) k = outK o f y t k := by rw [bindsL, nth_rangeB hk]
theorem len_binds (o f : List Ind) (y t : List Int) : (bindsL o f y t).length = o.length := by simp [bindsL]
theorem range_congr {n : Nat} {p q : Nat → Bool} (h : ∀ j, j < n → p j = q j) : (List.range n).any p = (List.range n).any q := by
  cases hq : (List.range n).any q with
  | true =>
    obtain ⟨j, hj, e⟩ := List.any_eq_true.1 hq
    have hj := List.mem_range.1 hj
    exact range_yes hj (by rw [h j hj]; exact e)
  | false => exact range_no fun j hj => by rw [h j hj]; simpa using List.any_eq_false.1 hq j (List.mem_range.2 hj)
/-! ### BindApart: the plain law -/
theorem nth_mapG {α β : Type} [Inhabited α] [Inhabited β] {l : List α} {g : α → β} {k : Nat} (h : k < l.length) : nth (l.map g) k = g (nth l k) := by
  rw [nth_eq (by simpa using h), nth_eq h, List.getElem_map]
theorem names_ne {o : List Ind} (h : dupF o = false) {i j : Nat} (hi : i < o.length) (hj : j < o.length) (hne : i ≠ j) : ¬ (nth o i).name = (nth o j).name := by
  have key : ∀ a b, a < b → b < o.length → ¬ (nth o a).name = (nth o b).name := fun a b hab hb q => by
    have h1 := List.any_eq_false.1 h b (List.mem_range.2 hb)
    apply h1
    exact range_yes hab (decide_eq_true q)
  rcases Nat.lt_or_gt_of_ne hne with q | q
  · exact key i j q hj
  · exact fun e => key j i q hi e.symm
structure Pick38 (J : List Nat) (n : Nat) : Prop where
  lt : ∀ j ∈ J, j < n
  nd : ∀ a b, a < J.length → b < J.length → a ≠ b → nth J a ≠ nth J b
  len : J.length ≤ n
theorem apart_err {o f : List Ind} {y t : List Int} {J : List Nat} (he : errB o f y t = 0) (hJ : Pick38 J o.length) : errB (J.map (nth o)) (J.map (nth f)) (J.map (nth y)) (J.map (nth t)) = 0 := by
  obtain ⟨hs, ro, rf, hd, hm⟩ := errB_zero he
  obtain ⟨n1, n2, n3, n4⟩ := shape_iff.1 hs
  have hlt : ∀ p, p < J.length → nth J p < o.length := fun p hp => hJ.lt _ (nth_mem hp)
  have hs' : shapeF (J.map (nth o)) (J.map (nth f)) (J.map (nth y)) (J.map (nth t)) = true := shape_iff.2 ⟨by simp, by simp, by simp, by have := hJ.len; simp; omega⟩
  have hd' : dupF (J.map (nth o)) = false := by
    refine range_no fun i hi => range_no fun k hk => decide_eq_false ?_
    rw [List.length_map] at hi
    rw [nth_mapG (by omega), nth_mapG hi]
    exact names_ne hd (hlt k (by omega)) (hlt i hi) (hJ.nd k i (by omega) hi (by omega))
  have hm' : misF (J.map (nth o)) (J.map (nth f)) = false := by
    refine range_no fun i hi => ?_
    rw [List.length_map] at hi
    have h1 := List.any_eq_false.1 hm (nth J i) (List.mem_range.2 (hlt i hi))
    rw [misK, nth_mapG hi, nth_mapG hi]
    rw [misK] at h1
    simpa using h1
  rw [errB, if_neg, hd', if_neg (by decide), hm', if_neg (by decide)]
  rintro (q | q | q)
  · rw [hs'] at q; cases q
  · obtain ⟨z, hz, h2⟩ := List.any_eq_true.1 q
    obtain ⟨j, hj, rfl⟩ := List.mem_map.1 hz
    rw [ro _ (nth_mem (hJ.lt j hj))] at h2; cases h2
  · obtain ⟨z, hz, h2⟩ := List.any_eq_true.1 q
    obtain ⟨j, hj, rfl⟩ := List.mem_map.1 hz
    rw [rf _ (nth_mem (by have := hJ.lt j hj; omega))] at h2; cases h2
theorem apart_out {o f : List Ind} {y t : List Int} {J : List Nat} (hJ : Pick38 J o.length) {p : Nat} (hp : p < J.length) (hall : ∀ j, j < o.length → resK o f j = true → (nth o j).issuer = (nth o (nth J p)).issuer → j ∈ J) :
    outK (J.map (nth o)) (J.map (nth f)) (J.map (nth y)) (J.map (nth t)) p = outK o f y t (nth J p) := by
  have hg : ∀ q, q < J.length → gotK (J.map (nth o)) (J.map (nth f)) (J.map (nth y)) (J.map (nth t)) q = gotK o f y t (nth J q) := fun q hq => by
    unfold gotK; rw [nth_mapG hq, nth_mapG hq, nth_mapG hq, nth_mapG hq]
  have hr : ∀ q, q < J.length → resK (J.map (nth o)) (J.map (nth f)) q = resK o f (nth J q) := fun q hq => by
    unfold resK; rw [nth_mapG hq, nth_mapG hq]
  have hb : ∀ q, q < J.length → badK (J.map (nth o)) (J.map (nth f)) (J.map (nth y)) (J.map (nth t)) q = badK o f y t (nth J q) := fun q hq => by
    unfold badK; rw [hg q hq, hr q hq]
  unfold outK
  rw [hg p hp, hr p hp, nth_mapG hp, List.length_map]
  congr 2
  congr 1
  cases hf : failS o f y t o.length (nth o (nth J p)).issuer with
  | true =>
    obtain ⟨j, hj, h2⟩ := List.any_eq_true.1 hf
    have hj := List.mem_range.1 hj
    rw [Bool.and_eq_true, decide_eq_true_iff] at h2
    have hrj : resK o f j = true := by
      have := h2.1
      unfold badK at this
      rw [Bool.and_eq_true] at this; exact this.1
    obtain ⟨q, hq, e⟩ := List.getElem_of_mem (hall j hj hrj h2.2)
    have e : nth J q = j := by rw [nth_eq hq]; exact e
    refine range_yes hq ?_
    rw [hb q hq, nth_mapG hq, e, h2.1, decide_eq_true h2.2]; rfl
  | false =>
    refine range_no fun q hq => ?_
    rw [hb q hq, nth_mapG hq]
    have := List.any_eq_false.1 hf (nth J q) (List.mem_range.2 (hJ.lt _ (nth_mem hq)))
    simpa using this
theorem range_filter (p : Nat → Bool) : ∀ n, Pick38 ((List.range n).filter p) n := by
  intro n
  have hp : ((List.range n).filter p).Pairwise (· < ·) := List.Pairwise.filter _ List.pairwise_lt_range
  refine ⟨fun j hj => List.mem_range.1 (List.mem_filter.1 hj).1, fun a b ha hb hne => ?_, by have := List.length_filter_le p (List.range n); simpa using this⟩
  rw [nth_eq ha, nth_eq hb]
  rcases Nat.lt_or_gt_of_ne hne with q | q
  · have := List.pairwise_iff_getElem.1 hp a b ha hb q; omega
  · have := List.pairwise_iff_getElem.1 hp b a hb ha q; omega
theorem filter_place {p : Nat → Bool} {i n : Nat} (hi : i < n) (hp : p i = true) : ((List.range i).filter p).length < ((List.range n).filter p).length ∧ nth ((List.range n).filter p) ((List.range i).filter p).length = i := by
  obtain ⟨m, rfl⟩ : ∃ m, n = i + (m + 1) := ⟨n - i - 1, by omega⟩
  have e : (List.range (i + (m + 1))).filter p = (List.range i).filter p ++ (i :: ((List.range m).map fun k => i + (k + 1)).filter p) := by
    rw [List.range_add, List.filter_append, List.range_succ_eq_map, List.map_cons, List.filter_cons, Nat.add_zero, if_pos hp, List.map_map]
    rfl
  rw [e]
  refine ⟨by simp, ?_⟩
  rw [nth_eq (by simp)]
  simp
/-! ### BindApart: the walk -/
def sameK (o f : List Ind) (i j : Nat) : Bool := decide ((nth o j).issuer = (nth o i).issuer) && resK o f j
def keepK (o f : List Ind) (i j : Nat) : Bool := decide (j = i) || sameK o f i j
def jL (o f : List Ind) (i k : Nat) : List Nat := (List.range k).filter (keepK o f i)
theorem jL_yes {o f : List Ind} {i k : Nat} (h : keepK o f i k = true) : jL o f i (k + 1) = jL o f i k ++ [k] := by
  unfold jL; rw [List.range_succ, List.filter_append, List.filter_cons, if_pos h]; rfl
theorem jL_no {o f : List Ind} {i k : Nat} (h : keepK o f i k = false) : jL o f i (k + 1) = jL o f i k := by
  unfold jL; rw [List.range_succ, List.filter_append, List.filter_cons, if_neg (by rw [h]; decide)]; simp
theorem jL_len (o f : List Ind) (i k : Nat) : (jL o f i k).length ≤ k := by
  unfold jL; have := List.length_filter_le (keepK o f i) (List.range k); simpa using this
theorem alone_out (o f : List Ind) (y t : List Int) (i : Nat) : outK [nth o i] [nth f i] [nth y i] [nth t i] 0 = gotK o f y t i := by
  have e : ∀ {α : Type} [Inhabited α] (x : α), nth [x] 0 = x := fun x => by simp [nth]
  have hg : gotK [nth o i] [nth f i] [nth y i] [nth t i] 0 = gotK o f y t i := by unfold gotK; rw [e, e, e, e]
  have hr : resK [nth o i] [nth f i] 0 = resK o f i := by unfold resK; rw [e, e]
  unfold outK
  have hf : failS [nth o i] [nth f i] [nth y i] [nth t i] 1 (nth [nth o i] 0).issuer = (resK o f i && !gotK o f y t i) := by
    unfold failS
    rw [show List.range 1 = [0] from rfl, List.any_cons, List.any_nil, Bool.or_false, badK, hg, hr, decide_eq_true rfl, Bool.and_true]
  rw [show [nth o i].length = 1 from rfl, hf, hg, hr]
  cases gotK o f y t i <;> cases resK o f i <;> rfl
theorem free_out {o f : List Ind} {y t : List Int} {i : Nat} (h : resK o f i = false ∨ ∀ j, j < o.length → j ≠ i → sameK o f i j = false) : outK o f y t i = gotK o f y t i := by
  unfold outK
  cases hg : gotK o f y t i with
  | false => rfl
  | true =>
    cases hr : resK o f i with
    | false => rfl
    | true =>
      rw [Bool.true_and, Bool.true_and, Bool.not_eq_true']
      refine range_no fun j hj => ?_
      by_cases e : j = i
      · subst e; rw [badK, hg]; simp
      · rcases h with h | h
        · rw [hr] at h; cases h
        · have := h j hj e
          unfold sameK at this
          unfold badK
          cases hd : decide ((nth o j).issuer = (nth o i).issuer) with
          | false => simp
          | true => rw [hd, Bool.true_and] at this; rw [this]; rfl
theorem out_got {o f : List Ind} {y t : List Int} {i : Nat} (h : outK o f y t i = true) : gotK o f y t i = true := by
  unfold outK at h; rw [Bool.and_eq_true] at h; exact h.1
end Go.Proofs.Ytionjeodcmnneaa
