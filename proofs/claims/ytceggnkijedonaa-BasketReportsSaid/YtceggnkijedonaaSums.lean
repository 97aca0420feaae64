/-
  Plain laws on the sum of reports: the last report of each period counts, in whatever order a map hands them out.
-/
import Derived.Test.YtceggnkijedonaaWalk4
set_option linter.unusedVariables false
set_option linter.unusedSimpArgs false
namespace Go.Proofs.Ytceggnkijedonaa
open Lf Go
def lastSum (p : Fact → Bool) : List Fact → Int
  | [] => 0
  | f :: r => (if p f && !(r.any fun g => p g && decide (g.period = f.period)) then f.value else 0) + lastSum p r
def bld (p : Fact → Bool) (M : List (Int × Int)) : List Fact → List (Int × Int)
  | [] => M
  | f :: r => bld p (if p f then mput M f.period f.value else M) r
def tot (M : List (Int × Int)) : Int := (M.map Prod.snd).sum
theorem bld_append (p : Fact → Bool) : ∀ (l r : List Fact) (M : List (Int × Int)), bld p M (l ++ r) = bld p (bld p M l) r
  | [], r, M => rfl
  | f :: l, r, M => by rw [List.cons_append, bld, bld, bld_append p l r]
theorem bld_take {p : Fact → Bool} {l : List Fact} {k : Nat} (h : k < l.length) : bld p [] (l.take (k + 1)) = if p (nth l k) then mput (bld p [] (l.take k)) (nth l k).period (nth l k).value else bld p [] (l.take k) := by
  rw [take_nth h, bld_append]; rfl
/-- keys that come once -/
def uniq (M : List (Int × Int)) : Prop := (M.map Prod.fst).Nodup
theorem mput_keys {M : List (Int × Int)} {k v x : Int} : x ∈ (mput M k v).map Prod.fst ↔ x = k ∨ x ∈ M.map Prod.fst := by
  induction M with
  | nil => simp [mput]
  | cons a M ih =>
    obtain ⟨a, y⟩ := a
    simp only [mput]
    split
    · rename_i h; subst h; simp
    · simp only [List.map_cons, List.mem_cons, ih]
      constructor
      · rintro (h | h | h)
        · exact .inr (.inl h)
        · exact .inl h
        · exact .inr (.inr h)
      · rintro (h | h | h)
        · exact .inr (.inl h)
        · exact .inl h
        · exact .inr (.inr h)
theorem mput_uniq {M : List (Int × Int)} {k v : Int} (h : uniq M) : uniq (mput M k v) := by
  unfold uniq at *
  induction M with
  | nil => simp [mput]
  | cons a M ih =>
    obtain ⟨a, y⟩ := a
    simp only [List.map_cons, List.nodup_cons] at h
    simp only [mput]
    split
    · rename_i e; subst e; simpa using h
    · rename_i e
      simp only [List.map_cons, List.nodup_cons]
      refine ⟨fun hm => ?_, ih h.2⟩
      rcases mput_keys.1 hm with hm | hm
      · exact e hm
      · exact h.1 hm
/-- the sum of the entries whose key q takes -/
def totQ (q : Int → Bool) : List (Int × Int) → Int
  | [] => 0
  | (k, v) :: r => (if q k then v else 0) + totQ q r
theorem totQ_none {q : Int → Bool} : ∀ {M : List (Int × Int)}, (∀ k ∈ M.map Prod.fst, q k = false) → totQ q M = 0
  | [], _ => rfl
  | (k, v) :: r, h => by rw [totQ, h k (by simp), totQ_none fun x hx => h x (by simp at hx ⊢; exact .inr hx)]; simp
theorem totQ_mput {q : Int → Bool} {k v : Int} : ∀ {M : List (Int × Int)}, uniq M → totQ q (mput M k v) = (if q k then v else 0) + totQ (fun x => q x && !decide (x = k)) M
  | [], _ => by simp [mput, totQ]
  | (a, y) :: r, h => by
    have h' : uniq r := (List.nodup_cons.1 (by simpa [uniq] using h)).2
    have hn : a ∉ r.map Prod.fst := (List.nodup_cons.1 (by simpa [uniq] using h)).1
    simp only [mput]
    split
    · rename_i e; subst e
      have hr : totQ (fun x => q x && !decide (x = a)) r = totQ q r := by
        clear h h'
        induction r with
        | nil => rfl
        | cons b r ih =>
          obtain ⟨b, z⟩ := b
          simp only [List.map_cons, List.mem_cons, not_or] at hn
          have hb : ¬ b = a := fun e => hn.1 e.symm
          simp [totQ, hb, ih hn.2]
      simp [totQ, hr]
    · rename_i e
      rw [totQ, totQ, totQ_mput h']
      simp [e]; omega
theorem totQ_congr {q q' : Int → Bool} (h : ∀ x, q x = q' x) (M : List (Int × Int)) : totQ q M = totQ q' M := by rw [show q = q' from funext h]
theorem bld_tot {p : Fact → Bool} : ∀ (l : List Fact) (M : List (Int × Int)) (q : Int → Bool), uniq M → totQ q (bld p M l) = totQ (fun x => q x && !(l.any fun g => p g && decide (g.period = x))) M + (lastSum (fun f => p f && q f.period) l)
  | [], M, q, h => by simp [bld, lastSum]
  | f :: r, M, q, h => by
    rw [bld, lastSum]
    cases hp : p f with
    | false =>
      simp only [Bool.false_eq_true, if_false, List.any_cons, hp, Bool.false_and, Bool.false_or]
      rw [bld_tot r M q h]; simp
    | true =>
      simp only [if_true, List.any_cons, hp, Bool.true_and]
      rw [bld_tot r _ q (mput_uniq h), totQ_mput h]
      have e1 : (r.any fun g => p g && q g.period && decide (g.period = f.period)) = (q f.period && r.any fun g => p g && decide (g.period = f.period)) := by
        rw [Bool.eq_iff_iff]
        simp only [List.any_eq_true, Bool.and_eq_true, decide_eq_true_eq]
        constructor
        · rintro ⟨g, hg, ⟨h1, h2⟩, h3⟩; exact ⟨h3 ▸ h2, g, hg, h1, h3⟩
        · rintro ⟨h1, g, hg, h2, h3⟩; exact ⟨g, hg, ⟨h2, h3.symm ▸ h1⟩, h3⟩
      rw [e1]
      have e2 : totQ (fun x => (q x && !(r.any fun g => p g && decide (g.period = x))) && !decide (x = f.period)) M = totQ (fun x => q x && !(decide (f.period = x) || r.any fun g => p g && decide (g.period = x))) M := by
        refine totQ_congr (fun x => ?_) M
        have : decide (x = f.period) = decide (f.period = x) := by congr 1; rw [eq_iff_iff]; exact eq_comm
        rw [this]
        cases q x <;> cases decide (f.period = x) <;> cases (r.any fun g => p g && decide (g.period = x)) <;> rfl
      rw [e2]
      cases hq : q f.period <;> cases (r.any fun g => p g && decide (g.period = f.period)) <;> simp <;> omega
theorem totQ_true (M : List (Int × Int)) : totQ (fun _ => true) M = tot M := by
  induction M with
  | nil => rfl
  | cons a M ih => obtain ⟨k, v⟩ := a; simp [totQ, tot, ih]
theorem bld_last (p : Fact → Bool) (l : List Fact) : tot (bld p [] l) = lastSum p l := by
  rw [← totQ_true, bld_tot l [] _ (by simp [uniq])]
  simp [totQ]
theorem bld_vals {p : Fact → Bool} {v : Int → Prop} : ∀ {l : List Fact} {M : List (Int × Int)}, (∀ f ∈ l, v f.value) → (∀ e ∈ M, v e.2) → ∀ e ∈ bld p M l, v e.2
  | [], M, _, h => h
  | f :: r, M, h1, h2 => by
    rw [bld]
    refine bld_vals (fun g hg => h1 g (List.mem_cons_of_mem _ hg)) fun e he => ?_
    split at he
    · have key : ∀ {M : List (Int × Int)} {k y : Int}, v y → (∀ e ∈ M, v e.2) → ∀ e ∈ mput M k y, v e.2 := by
        intro M k y hy
        induction M with
        | nil => intro _ e he; simp [mput] at he; subst he; exact hy
        | cons a M ih =>
          obtain ⟨a, z⟩ := a
          intro hM e he
          simp only [mput] at he
          split at he
          · rcases List.mem_cons.1 he with rfl | he
            · exact hy
            · exact hM e (List.mem_cons_of_mem _ he)
          · rcases List.mem_cons.1 he with rfl | he
            · exact hM _ (List.mem_cons_self ..)
            · exact ih (fun e he => hM e (List.mem_cons_of_mem _ he)) e he
      exact key (h1 f (List.mem_cons_self ..)) h2 e he
    · exact h2 e he
/-- the sum over the places that a range has shown -/
def seenSum (M : List (Int × Int)) (seen : List Nat) : Int := (seen.map fun j => (nth M j).2).sum
theorem perm_sum {l l' : List Int} (h : l.Perm l') : l.sum = l'.sum := by
  induction h with
  | nil => rfl
  | cons x _ ih => simp [ih]
  | swap x y l => simp; omega
  | trans _ _ ih1 ih2 => rw [ih1, ih2]
theorem seen_all {M : List (Int × Int)} {seen : List Nat} (hn : seen.Nodup) (hb : ∀ j ∈ seen, j < M.length) (ha : ∀ j, j < M.length → j ∈ seen) : seenSum M seen = tot M := by
  have hp : seen.Perm (List.range M.length) := (List.perm_ext_iff_of_nodup hn List.nodup_range).2 fun j => by rw [List.mem_range]; exact ⟨hb j, ha j⟩
  rw [seenSum, perm_sum (hp.map _), tot]
  congr 1
  apply List.ext_getElem (by simp)
  intro j h1 h2
  have hj : j < M.length := by simpa using h2
  simp [nth, List.getD, List.getElem?_eq_getElem hj]
theorem nodup_len {seen : List Nat} {n : Nat} (hn : seen.Nodup) (hb : ∀ j ∈ seen, j < n) : seen.length ≤ n := by
  let r := (List.range n).filter fun j => !decide (j ∈ seen)
  have hd : (seen ++ r).Nodup := by
    rw [List.nodup_append]
    refine ⟨hn, List.nodup_range.filter _, fun a ha b hb' e => ?_⟩
    subst e
    have := (List.mem_filter.1 hb').2
    simp [ha] at this
  have hp : (seen ++ r).Perm (List.range n) := (List.perm_ext_iff_of_nodup hd List.nodup_range).2 fun j => by
    rw [List.mem_append, List.mem_filter, List.mem_range]
    constructor
    · rintro (h | h)
      · exact hb j h
      · exact h.1
    · intro h
      by_cases hj : j ∈ seen
      · exact .inl hj
      · exact .inr ⟨h, by simp [hj]⟩
  have := hp.length_eq
  simp at this
  omega
theorem nodup_snoc {seen : List Nat} {j : Nat} (hn : seen.Nodup) (h : j ∉ seen) : (seen ++ [j]).Nodup := by
  rw [List.nodup_append]
  exact ⟨hn, by simp, fun a ha b hb => by simp at hb; subst hb; exact fun e => h (e ▸ ha)⟩
theorem seenSum_snoc {M : List (Int × Int)} {seen : List Nat} {j : Nat} : seenSum M (seen ++ [j]) = seenSum M seen + (nth M j).2 := by
  simp [seenSum]
theorem seenSum_nn {M : List (Int × Int)} (h : ∀ e ∈ M, 0 ≤ e.2) : ∀ {seen : List Nat}, (∀ j ∈ seen, j < M.length) → 0 ≤ seenSum M seen
  | [], _ => by simp [seenSum]
  | j :: r, hb => by
    have h1 := h _ (nth_mem (hb j (by simp)))
    have h2 := seenSum_nn h (seen := r) fun x hx => hb x (by simp [hx])
    simp only [seenSum, List.map_cons, List.sum_cons] at h2 ⊢
    omega
theorem lastSum_nn {p : Fact → Bool} : ∀ {l : List Fact}, (∀ f ∈ l, 0 ≤ f.value) → 0 ≤ lastSum p l
  | [], _ => by simp [lastSum]
  | f :: r, h => by
    rw [lastSum]
    have h1 := h f (by simp)
    have h2 := lastSum_nn (p := p) (l := r) fun x hx => h x (by simp [hx])
    split <;> omega
end Go.Proofs.Ytceggnkijedonaa
