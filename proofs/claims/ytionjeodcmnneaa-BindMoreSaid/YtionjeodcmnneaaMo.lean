/-
  BindMore: the plain law
-/
import Derived.Test.YtionjeodcmnneaaPre
set_option linter.unusedVariables false
set_option linter.unusedSimpArgs false
set_option maxHeartbeats 8000000
namespace Go.Proofs.Ytionjeodcmnneaa
open Lf Go
attribute [local irreducible] PureOp EffOp Ev RG W Then InBlock Lf.Fin nth App InitE Pick SubE SubF SubG EvL EvD EvP EvR ResL Lf.Lex SubR SubBR RA RAll EvC FinO FinM ResM FinB ResD

/-! ### BindMore: the plain law -/
theorem binds_zero {o f : List Ind} {y t : List Int} (he : errB o f y t = 0) : (bindsF o f y t) = (bindsL o f y t, 0) := by rw [bindsF, if_pos he]
theorem binds_err {o f : List Ind} {y t : List Int} (he : ¬ errB o f y t = 0) : (bindsF o f y t) = ([], errB o f y t) := by rw [bindsF, if_neg he]
theorem nth_binds {o f : List Ind} {y t : List Int} {k : Nat} (hk : k < o.length) : nth (bindsL o f y t) k = outK o f y t k := by rw [bindsL, nth_rangeB hk]
theorem len_binds (o f : List Ind) (y t : List Int) : (bindsL o f y t).length = o.length := by simp [bindsL]
abbrev c16 (n : Int) : PV := .one (.int .u16 n)
theorem range_congr {n : Nat} {p q : Nat → Bool} (h : ∀ j, j < n → p j = q j) : (List.range n).any p = (List.range n).any q := by
  cases hq : (List.range n).any q with
  | true =>
    obtain ⟨j, hj, e⟩ := List.any_eq_true.1 hq
    have hj := List.mem_range.1 hj
    exact range_yes hj (by rw [h j hj]; exact e)
  | false => exact range_no fun j hj => by rw [h j hj]; simpa using List.any_eq_false.1 hq j (List.mem_range.2 hj)
theorem errB_keep {o f o' f' : List Ind} {y t y' t' : List Int} (he : errB o f y t = 0) (l1 : o'.length = o.length) (l2 : f'.length = f.length) (l3 : y'.length = y.length) (l4 : t'.length = t.length) (ro : ∀ x ∈ o', rightN x = true) (rf : ∀ x ∈ f', rightN x = true)
    (no : ∀ j, j < o.length → (nth o' j).name = (nth o j).name ∧ (nth o' j).issuer = (nth o j).issuer) (nf : ∀ j, j < o.length → (nth f' j).name = (nth f j).name ∧ (nth f' j).issuer = (nth f j).issuer) : errB o' f' y' t' = 0 := by
  obtain ⟨hs, _, _, hd, hm⟩ := errB_zero he
  have hs' : shapeF o' f' y' t' = true := by
    have := shape_iff.1 hs
    exact shape_iff.2 ⟨by omega, by omega, by omega, by omega⟩
  have hd' : dupF o' = false := by
    rw [← hd, dupF, dupF, l1]
    refine range_congr fun j hj => ?_
    rw [nameK, nameK, (no j hj).1]
    exact range_congr fun i hi => by rw [(no i (by omega)).1]
  have hm' : misF o' f' = false := by
    rw [← hm, misF, misF, l1]
    exact range_congr fun j hj => by rw [misK, misK, (no j hj).1, (no j hj).2, (nf j hj).1, (nf j hj).2]
  rw [errB, if_neg, hd', if_neg (by decide), hm', if_neg (by decide)]
  rintro (q | q | q)
  · rw [hs'] at q; cases q
  · obtain ⟨z, hz, h2⟩ := List.any_eq_true.1 q
    rw [ro z hz] at h2; cases h2
  · obtain ⟨z, hz, h2⟩ := List.any_eq_true.1 q
    rw [rf z hz] at h2; cases h2
theorem out_mono {o f o' f' : List Ind} {y t y' t' : List Int} (hn : o'.length = o.length) (hi : ∀ j, j < o.length → (nth o' j).issuer = (nth o j).issuer) (hr : ∀ j, j < o.length → resK o' f' j = resK o f j) (hg : ∀ j, j < o.length → gotK o f y t j = true → gotK o' f' y' t' j = true) {k : Nat} (hk : k < o.length) (h : outK o f y t k = true) : outK o' f' y' t' k = true := by
  unfold outK at h ⊢
  rw [Bool.and_eq_true, Bool.not_eq_true'] at h ⊢
  refine ⟨hg k hk h.1, ?_⟩
  rw [hr k hk, hn, hi k hk]
  cases hrk : resK o f k with
  | false => rfl
  | true =>
    have hf := h.2
    rw [hrk, Bool.true_and] at hf
    rw [Bool.true_and]
    refine range_no fun j hj => ?_
    have h0 : (badK o f y t j && decide ((nth o j).issuer = (nth o k).issuer)) = false := by
      have := List.any_eq_false.1 hf j (List.mem_range.2 hj)
      simpa using this
    rw [hi j hj]
    cases hd : decide ((nth o j).issuer = (nth o k).issuer) with
    | false => simp
    | true =>
      rw [hd, Bool.and_true] at h0
      rw [Bool.and_true]
      unfold badK at h0 ⊢
      rw [hr j hj]
      cases hrj : resK o f j with
      | false => rfl
      | true =>
        rw [hrj, Bool.true_and, Bool.not_eq_false'] at h0
        rw [hg j hj h0]; rfl
theorem reach_more {n y y' a : Int} (h : reachF n y a = true) (h1 : y ≤ y') (h2 : y' ≤ a) : reachF n y' a = true := by
  unfold reachF at h ⊢
  rw [Bool.and_eq_true, decide_eq_true_iff] at h ⊢
  have := fineF_iff.1 h.1
  exact ⟨fineF_iff.2 (by omega), by omega⟩
theorem reach_less {n n' y a : Int} (h : reachF n' y a = true) (h1 : 1 ≤ n) (h2 : n ≤ n') : reachF n y a = true := by
  unfold reachF at h ⊢
  rw [Bool.and_eq_true, decide_eq_true_iff] at h ⊢
  have := fineF_iff.1 h.1
  refine ⟨fineF_iff.2 (by omega), ?_⟩
  have : n * a ≤ n' * a := Int.mul_le_mul_of_nonneg_right h2 (by omega)
  omega
def withM (x : Ind) (m : Int) : Ind := { x with majority := m }
theorem right_maj {x : Ind} (h : rightN x = true) : 1 ≤ x.majority ∧ x.majority ≤ 1000 := by
  have h1 : hdR x = true := by
    unfold rightN at h; simp only [Bool.and_eq_true] at h; exact h.1.1
  have := (hd_iff x).1 h1
  have : inF 1 1000 x.majority = true := this.2.2.2.2.2.2.2.2.2.2.2.2.2.2.2.1
  simp only [inF, Bool.and_eq_true, decide_eq_true_iff] at this
  exact this
theorem right_withM {x : Ind} {m : Int} (h : rightN x = true) (h1 : 1 ≤ m ∧ m ≤ 1000) : rightN (withM x m) = true := by
  have hm := right_maj h
  have e1 : inF 1 1000 m = true := by simp [inF, h1.1, h1.2]
  have e2 : inF 1 1000 x.majority = true := by simp [inF, hm.1, hm.2]
  have et : twoR (withM x m) = twoR x := by
    unfold twoR withM
    simp only [List.all_cons, List.all_nil, e1, e2]
  have : rightN (withM x m) = rightN x := by
    unfold rightN hdR
    rw [et]; rfl
  rw [this]; exact h
theorem same_withM {x z : Ind} {m : Int} (h : x.majority = z.majority) : sameN (withM x m) (withM z m) = sameN x z := by
  have : numF (withM x m) (withM z m) = numF x z := by
    unfold numF withM; simp [h]
  unfold sameN
  rw [this]; rfl
theorem res_withM {x z : Ind} {m : Int} (h : x.majority = z.majority) : resF (withM x m) (withM z m) = resF x z := by
  have : resT (withM x m) (withM z m) = resT x z := by
    unfold resT withM; simp [h, termF]
  unfold resF resL
  rw [this]
theorem got_withM {x z : Ind} {m y t : Int} (h : x.majority = z.majority) (h1 : 1 ≤ x.majority) (h2 : x.majority ≤ m) (hg : gotF (withM x m) (withM z m) y t = true) : gotF x z y t = true := by
  unfold gotF needF at hg ⊢
  rw [same_withM h, res_withM h] at hg
  cases hs : sameN x z with
  | true => rw [hs, if_pos rfl] at hg; rw [if_pos rfl]; exact hg
  | false =>
    rw [hs, if_neg (by decide)] at hg
    rw [if_neg (by decide)]
    cases hr : resF x z with
    | true => rw [hr, if_pos rfl] at hg; rw [if_pos rfl]; exact reach_less hg h1 h2
    | false => rw [hr, if_neg (by decide)] at hg; rw [if_neg (by decide)]; exact hg
theorem nth_setG {α : Type} [Inhabited α] {m : List α} {k j : Nat} {v : α} (hk : k < m.length) : nth (m.set k v) j = if j = k then v else nth m j := by
  simp only [nth, List.getD, List.getElem?_set]
  by_cases h : k = j
  · subst h; simp [hk]
  · rw [if_neg h, if_neg (Ne.symm h)]
theorem mem_set {α : Type} {m : List α} {k : Nat} {v x : α} (h : x ∈ m.set k v) : x ∈ m ∨ x = v := List.mem_or_eq_of_mem_set h
/-- with more consents -/
def moreY (y t : List Int) (i : Nat) (b : Int) : List Int := if (0 ≤ nth y i ∧ nth y i ≤ nth t i) ∧ nth t i ≤ 1000000000 then y.set i (min (nth y i + b) (nth t i)) else y
theorem more_len (y t : List Int) (i : Nat) (b : Int) : (moreY y t i b).length = y.length := by unfold moreY; split <;> simp
theorem more_out {o f : List Ind} {y t : List Int} {i : Nat} {b : Int} (hs : shapeF o f y t = true) (hi : i < o.length) (hb : 0 ≤ b) {k : Nat} (hk : k < o.length) (h : outK o f y t k = true) : outK o f (moreY y t i b) t k = true := by
  obtain ⟨n1, n2, n3, n4⟩ := shape_iff.1 hs
  refine out_mono (y := y) (t := t) rfl (fun _ _ => rfl) (fun _ _ => rfl) (fun j hj hg => ?_) hk h
  unfold moreY
  split
  · rename_i hc
    unfold gotK at hg ⊢
    rw [nth_setG (by omega)]
    by_cases e : j = i
    · subst e
      rw [if_pos rfl]
      unfold gotF at hg ⊢
      exact reach_more hg (by omega) (by omega)
    · rw [if_neg e]; exact hg
  · exact hg
/-- with a greater majority -/
def strOld (o : List Ind) (i : Nat) (b : Int) : List Ind := o.set i (withM (nth o i) (min ((nth o i).majority + b) 1000))
def strNew (o f : List Ind) (i : Nat) (b : Int) : List Ind := f.set i (withM (nth f i) (min ((nth o i).majority + b) 1000))
theorem str_err {o f : List Ind} {y t : List Int} {i : Nat} {b : Int} (he : errB o f y t = 0) (hi : i < o.length) (hb : 0 ≤ b) : errB (strOld o i b) (strNew o f i b) y t = 0 := by
  obtain ⟨hs, ro, rf, _, _⟩ := errB_zero he
  obtain ⟨n1, n2, n3, n4⟩ := shape_iff.1 hs
  have hmo := right_maj (ro _ (nth_mem hi))
  refine errB_keep he (by simp [strOld]) (by simp [strNew]) rfl rfl (fun x hx => ?_) (fun x hx => ?_) (fun j hj => ?_) (fun j hj => ?_)
  · rcases mem_set hx with h | h
    · exact ro x h
    · rw [h]; exact right_withM (ro _ (nth_mem hi)) (by omega)
  · rcases mem_set hx with h | h
    · exact rf x h
    · rw [h]; exact right_withM (rf _ (nth_mem (by omega))) (by omega)
  · unfold strOld
    rw [nth_setG hi]
    by_cases e : j = i
    · subst e; rw [if_pos rfl]; exact ⟨rfl, rfl⟩
    · rw [if_neg e]; exact ⟨rfl, rfl⟩
  · unfold strNew
    rw [nth_setG (by omega)]
    by_cases e : j = i
    · subst e; rw [if_pos rfl]; exact ⟨rfl, rfl⟩
    · rw [if_neg e]; exact ⟨rfl, rfl⟩
theorem str_out {o f : List Ind} {y t : List Int} {i : Nat} {b : Int} (he : errB o f y t = 0) (hi : i < o.length) (hb : 0 ≤ b) (hm : (nth o i).majority = (nth f i).majority) {k : Nat} (hk : k < o.length) (h : outK (strOld o i b) (strNew o f i b) y t k = true) : outK o f y t k = true := by
  obtain ⟨hs, ro, rf, _, _⟩ := errB_zero he
  obtain ⟨n1, n2, n3, n4⟩ := shape_iff.1 hs
  have hmo := right_maj (ro _ (nth_mem hi))
  have hl : (strOld o i b).length = o.length := by simp [strOld]
  have so : ∀ j, nth (strOld o i b) j = if j = i then withM (nth o i) (min ((nth o i).majority + b) 1000) else nth o j := fun j => nth_setG hi
  have sf : ∀ j, nth (strNew o f i b) j = if j = i then withM (nth f i) (min ((nth o i).majority + b) 1000) else nth f j := fun j => nth_setG (by omega)
  refine out_mono (o := strOld o i b) (f := strNew o f i b) (y := y) (t := t) hl.symm (fun j hj => ?_) (fun j hj => ?_) (fun j hj hg => ?_) (by omega) h
  · rw [so]
    by_cases e : j = i
    · subst e; rw [if_pos rfl]; rfl
    · rw [if_neg e]
  · unfold resK
    rw [so, sf]
    by_cases e : j = i
    · subst e; rw [if_pos rfl, if_pos rfl]; exact (res_withM hm).symm
    · rw [if_neg e, if_neg e]
  · unfold gotK at hg ⊢
    rw [so, sf] at hg
    by_cases e : j = i
    · subst e
      rw [if_pos rfl, if_pos rfl] at hg
      exact got_withM hm hmo.1 (by omega) hg
    · rw [if_neg e, if_neg e] at hg; exact hg
theorem okWithM {x : Ind} {m : Int} (h : OkN x) : OkN (withM x m) := ⟨h.name, h.issuer, h.lets, h.letn, h.lete, h.coupon, h.covs, h.covn, h.cove, h.favour, h.favn, h.calls⟩
theorem strArgs {o f : List Ind} {i : Nat} {b : Int} (h : Args o f) (hi : i < o.length) (hl : f.length = o.length) : Args (strOld o i b) (strNew o f i b) where
  ok x hx := by
    rcases mem_set hx with q | q
    · exact h.ok x q
    · rw [q]; exact okWithM (h.ok _ (nth_mem hi))
  ok' x hx := by
    rcases mem_set hx with q | q
    · exact h.ok' x q
    · rw [q]; exact okWithM (h.ok' _ (nth_mem (by omega)))
  sm x hx := by
    rcases mem_set hx with q | q
    · exact h.sm x q
    · rw [q]; exact h.sm (nth o i) (nth_mem hi)
  sm' x hx := by
    rcases mem_set hx with q | q
    · exact h.sm' x q
    · rw [q]; exact h.sm' (nth f i) (nth_mem (by omega))
  len := by simp [strOld]; exact h.len
  len' := by simp [strNew]; exact h.len'
end Go.Proofs.Ytionjeodcmnneaa
