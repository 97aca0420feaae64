/-
  BasketReports: the plain laws; open regions by the sets of what has been carried out.
-/
import Derived.Test.YtceggnkijedonaaBounds
set_option linter.unusedVariables false
set_option linter.unusedSimpArgs false
set_option maxHeartbeats 8000000
namespace Go.Proofs.Ytceggnkijedonaa
open Lf Go
/-- Ways that meet again, the code behind being on the stack already. -/
theorem cutK {P : Program} {G : Ghost} {A : St} {Q Q' : Exit → St → Prop} {x y : Code} {σ : Type _} (n : Nat) (keep : List Nat) (inv : σ → Prop) (f : σ → List (Nat × (Prop × AV))) (bl : σ → List (Nat × Blk)) {E : List (Nat × (Prop × AV))} (hp : Pick A keep E)
    (hx : Lf.W P G x (Then (fun A' => ∃ s', inv s' ∧ Le A' (mkSt n (f s') E (bl s'))) Q') A) (hy : ∀ s, inv s → Lf.W P G y Q (mkSt n (f s) E (bl s))) : Lf.W P G x (Then (Lf.W P G y Q) Q') A :=
  Lf.W.mono hx fun e A' h => by
    cases e with
    | normal => obtain ⟨s', h1, h2⟩ := h; exact Lf.W.weaken h2 (hy s' h1)
    | exit id => exact h
    | goto id => exact h
    | ret => exact h
    | panic c => exact h
    | outgrown => exact h
/-! ### An open region by the sets of what has been carried out: a state for each such set -/
section
variable {P : Program} {G : Ghost} {ops : Array Oper} {J : List Bool → St} {Q : St → Prop}
def LatI (P : Program) (G : Ghost) (ops : Array Oper) (J : List Bool → St) (L : List Bool) : List Nat → Prop
  | [] => True
  | i :: is => (∃ o, ops[i]? = some o ∧ RG P G ops [o] (fun A' => Le A' (J (L.set i true))) (J L)) ∧ LatI P G ops J L is
def LatL (P : Program) (G : Ghost) (ops : Array Oper) (J : List Bool → St) : List (List Bool × List Nat) → Prop
  | [] => True
  | (L, is) :: r => (Region.ready .any ops L.toArray = is ∧ LatI P G ops J L is) ∧ LatL P G ops J r
theorem LatI.nil {L : List Bool} : LatI P G ops J L [] := trivial
theorem LatI.cons {L : List Bool} {i : Nat} {is : List Nat} {o : Oper} (ho : ops[i]? = some o) (h : RG P G ops [o] (fun A' => Le A' (J (L.set i true))) (J L)) (h' : LatI P G ops J L is) : LatI P G ops J L (i :: is) := ⟨⟨o, ho, h⟩, h'⟩
theorem LatL.nil : LatL P G ops J [] := trivial
theorem LatL.cons {L : List Bool} {is : List Nat} {r : List (List Bool × List Nat)} (hr : Region.ready .any ops L.toArray = is) (h : LatI P G ops J L is) (h' : LatL P G ops J r) : LatL P G ops J ((L, is) :: r) := ⟨⟨hr, h⟩, h'⟩
theorem LatL.get : ∀ {tab : List (List Bool × List Nat)}, LatL P G ops J tab → ∀ L is, (L, is) ∈ tab → Region.ready .any ops L.toArray = is ∧ LatI P G ops J L is
  | (L0, is0) :: r, h, L, is, hm => by
    rcases List.mem_cons.1 hm with e | hm
    · cases e; exact h.1
    · exact LatL.get h.2 L is hm
theorem LatI.get {L : List Bool} : ∀ {is : List Nat}, LatI P G ops J L is → ∀ i ∈ is, ∃ o, ops[i]? = some o ∧ RG P G ops [o] (fun A' => Le A' (J (L.set i true))) (J L)
  | j :: is, h, i, hm => by
    rcases List.mem_cons.1 hm with e | hm
    · subst e; exact h.1
    · exact LatI.get h.2 i hm
def LatClosed (tab : List (List Bool × List Nat)) : Bool := tab.all fun e => e.2.all fun i => (e.1.getD i true == false) && tab.any fun e' => e'.1 == e.1.set i true
def LatEnd (tab : List (List Bool × List Nat)) (Le : List Bool) : Bool := (Le.count false == 0) && tab.all fun e => !e.2.isEmpty || e.1 == Le
theorem count_set : ∀ {L : List Bool} {i : Nat}, L.getD i true = false → (L.set i true).count false + 1 = L.count false
  | [], i, h => by simp at h
  | b :: L, 0, h => by simp at h; subst h; simp
  | b :: L, i + 1, h => by
    have := count_set (L := L) (i := i) (by simpa using h)
    simp only [List.set_cons_succ, List.count_cons]; omega
theorem LatI.consE {L : List Bool} {i : Nat} {is : List Nat} {o : Oper} {n : Nat} {f E env f2 : List (Nat × (Prop × AV))} {bl bl2 : List (Nat × Blk)} (ho : ops[i]? = some o) (h1 : J L = mkSt n f E bl) (h2 : J (L.set i true) = mkSt n f2 E bl2) (he : f ++ E = env)
    (h : RG P G ops [o] (fun A' => Le A' (mkSt n f2 E bl2)) (St.mk n env bl)) (h' : LatI P G ops J L is) : LatI P G ops J L (i :: is) := by
  refine ⟨⟨o, ho, ?_⟩, h'⟩
  rw [h1, h2]
  subst he
  exact h
theorem RA.lat {tab : List (List Bool × List Nat)} {Ln : List Bool} (h : LatL P G ops J tab) (hc : LatClosed tab = true) (he0 : LatEnd tab Ln = true) (hQ : Q (J Ln)) :
    ∀ (fuel : Nat) (L : List Bool), L.count false = fuel → L ∈ tab.map Prod.fst → RA P G ops fuel L Q (J L) := by
  simp only [LatEnd, Bool.and_eq_true, beq_iff_eq] at he0
  obtain ⟨hz, he⟩ := he0
  intro fuel
  induction fuel with
  | zero =>
    intro L hn hL
    obtain ⟨⟨L', is⟩, hm, e⟩ := List.mem_map.1 hL
    simp only at e; subst e
    obtain ⟨hr, hI⟩ := h.get L' is hm
    have hnil : is = [] := by
      cases is with
      | nil => rfl
      | cons i is =>
        have h1 := List.all_eq_true.1 (List.all_eq_true.1 hc _ hm) i (by simp)
        simp only [Bool.and_eq_true, beq_iff_eq] at h1
        have := count_set h1.1
        omega
    subst hnil
    have hend := List.all_eq_true.1 he _ hm
    simp only [List.isEmpty_nil, Bool.not_true, Bool.false_or, beq_iff_eq] at hend
    subst hend
    exact RA.done hr hQ
  | succ fuel ih =>
    intro L hn hL
    obtain ⟨⟨L', is⟩, hm, e⟩ := List.mem_map.1 hL
    simp only at e; subst e
    obtain ⟨hr, hI⟩ := h.get L' is hm
    cases his : is with
    | nil =>
      subst his
      have := List.all_eq_true.1 he _ hm
      simp only [List.isEmpty_nil, Bool.not_true, Bool.false_or, beq_iff_eq] at this
      subst this
      omega
    | cons i0 is0 =>
      subst his
      refine RA.step hr ?_
      have key : ∀ js : List Nat, (∀ i ∈ js, i ∈ i0 :: is0) → RAll P G ops fuel L' Q (J L') js := by
        intro js
        induction js with
        | nil => intro _; exact RAll.nil
        | cons j js ihj =>
          intro hjs
          have hj := hjs j (by simp)
          obtain ⟨o, ho, hg⟩ := hI.get j hj
          have h1 := List.all_eq_true.1 (List.all_eq_true.1 hc _ hm) j hj
          simp only [Bool.and_eq_true, beq_iff_eq] at h1
          have hcs := count_set h1.1
          obtain ⟨e', he', hee⟩ := List.any_eq_true.1 h1.2
          have hmem : L'.set j true ∈ tab.map Prod.fst := List.mem_map.2 ⟨e', he', by simpa using hee⟩
          refine RAll.cons ho (fun Φ β a w hs Q' hq => hg Φ β a w hs Q' fun A1 Φ1 β1 a1 w1 q1 s1 l1 => ?_) (ihj fun i hi => hjs i (List.mem_cons_of_mem _ hi))
          refine hq A1 Φ1 β1 a1 w1 ?_ s1 l1
          intro Φ2 β2 a2 w2 hs2 Q2 hq2
          obtain ⟨Φ3, β3, l3, s3⟩ := q1 G Φ2 β2 a2 w2 hs2
          exact ih (L'.set j true) (by omega) hmem Φ3 β3 a2 w2 s3 Q2 fun A4 Φ4 β4 a4 w4 q4 s4 l4 => hq2 A4 Φ4 β4 a4 w4 q4 s4 (Frz.le_trans l3 l4)
      exact key _ fun i hi => hi
theorem RG.normJ {rest : List Oper} {K : St → Prop} {n : Nat} {f E env : List (Nat × (Prop × AV))} {bl : List (Nat × Blk)} (h : App f E env) (hw : RG P G ops rest K (St.mk n env bl)) : RG P G ops rest K (mkSt n f E bl) := by
  unfold App at h; subst h; exact hw
theorem W.drawL {rid : Nat} {l : List Oper} {L0 : List Bool} {Q : Exit → St → Prop} {A : St} (J : List Bool → St) (tab : List (List Bool × List Nat)) (hm : P.follows .mixedOrders = true) (hL : List.replicate l.length false = L0) (hl : Le A (J L0)) (h : LatL P G l.toArray J tab)
    {Ln : List Bool} (hc : LatClosed tab = true) (he : LatEnd tab Ln = true) (h0 : tab.any (fun e => e.1 == L0) = true) (hQ : Q .normal (J Ln)) : Lf.W P G (.region rid l.toArray true) Q A := by
  refine Lf.W.weaken hl (W.drawA hm hL ?_)
  obtain ⟨e', he', hee⟩ := List.any_eq_true.1 h0
  exact RA.lat h hc he hQ l.length L0 (by rw [← hL]; simp) (List.mem_map.2 ⟨e', he', by simpa using hee⟩)
end

theorem lastSum_snoc {p : Fact → Bool} {x : Fact} : ∀ {l : List Fact}, lastSum p (l ++ [x]) = lastSum (fun f => p f && !(p x && decide (x.period = f.period))) l + (if p x then x.value else 0)
  | [] => by simp [lastSum]
  | f :: r => by
    rw [List.cons_append, lastSum, lastSum_snoc (l := r), lastSum]
    have e : (r ++ [x]).any (fun g => p g && decide (g.period = f.period)) = (r.any (fun g => p g && decide (g.period = f.period)) || (p x && decide (x.period = f.period))) := by simp [List.any_append]
    rw [e]
    cases hx : (p x && decide (x.period = f.period)) with
    | true => simp
    | false =>
      have e2 : (r.any fun g => (p g && !(p x && decide (x.period = g.period))) && decide (g.period = f.period)) = r.any fun g => p g && decide (g.period = f.period) := by
        rw [Bool.eq_iff_iff]
        simp only [List.any_eq_true, Bool.and_eq_true, decide_eq_true_eq, Bool.not_eq_true']
        constructor
        · rintro ⟨g, hg, ⟨h1, _⟩, h3⟩; exact ⟨g, hg, h1, h3⟩
        · rintro ⟨g, hg, h1, h3⟩; exact ⟨g, hg, ⟨h1, by rw [h3]; exact hx⟩, h3⟩
      rw [e2]
      simp only [Bool.or_false, Bool.not_false, Bool.and_true]
      omega
theorem lastSum_congr {p q : Fact → Bool} : ∀ {l : List Fact}, (∀ f ∈ l, p f = q f) → lastSum p l = lastSum q l
  | [], _ => rfl
  | f :: r, h => by
    have ih := lastSum_congr (l := r) fun g hg => h g (List.mem_cons_of_mem _ hg)
    have e : (r.any fun g => p g && decide (g.period = f.period)) = r.any fun g => q g && decide (g.period = f.period) := by
      rw [Bool.eq_iff_iff]
      simp only [List.any_eq_true, Bool.and_eq_true]
      constructor
      · rintro ⟨g, hg, h1, h2⟩; exact ⟨g, hg, by rw [← h g (List.mem_cons_of_mem _ hg)]; exact h1, h2⟩
      · rintro ⟨g, hg, h1, h2⟩; exact ⟨g, hg, by rw [h g (List.mem_cons_of_mem _ hg)]; exact h1, h2⟩
    rw [lastSum, lastSum, ih, e, h f (by simp)]
def updF (x f : Fact) : Fact := if sameAs f x then ⟨f.issuer, f.name, f.period, x.value, f.day⟩ else f
theorem upd_keep {x f : Fact} : (updF x f).issuer = f.issuer ∧ (updF x f).name = f.name ∧ (updF x f).period = f.period ∧ (updF x f).day = f.day := by
  unfold updF; split <;> exact ⟨rfl, rfl, rfl, rfl⟩
theorem lastSum_upd {p : Fact → Bool} {x : Fact} (hp : ∀ f, p (updF x f) = p f) (hs : ∀ f, p f = true → (sameAs f x = decide (x.period = f.period))) : ∀ {l : List Fact},
    lastSum p (l.map (updF x)) = lastSum (fun f => p f && !decide (x.period = f.period)) l + (if l.any (fun g => p g && decide (x.period = g.period)) then x.value else 0)
  | [] => by simp [lastSum]
  | f :: r => by
    rw [List.map_cons, lastSum, lastSum_upd hp hs (l := r), lastSum, hp, upd_keep.2.2.1, List.any_cons]
    have e : ((r.map (updF x)).any fun g => p g && decide (g.period = f.period)) = r.any fun g => p g && decide (g.period = f.period) := by
      rw [List.any_map]
      congr 1
      funext g
      simp only [Function.comp, hp, upd_keep.2.2.1]
    rw [e]
    cases hf : p f with
    | false => simp
    | true =>
      have hsf := hs f hf
      cases hx : decide (x.period = f.period) with
      | true =>
        have hx' : x.period = f.period := by simpa using hx
        have ev : (updF x f).value = x.value := by simp [updF, hsf, hx]
        have e3 : (r.any fun g => p g && decide (x.period = g.period)) = r.any fun g => p g && decide (g.period = f.period) := by
          congr 1; funext g
          have : decide (x.period = g.period) = decide (g.period = f.period) := by rw [hx']; congr 1; rw [eq_iff_iff]; exact eq_comm
          rw [this]
        rw [e3, ev]
        cases (r.any fun g => p g && decide (g.period = f.period)) <;> simp <;> omega
      | false =>
        have hx' : ¬ x.period = f.period := by simpa using hx
        have ev : (updF x f).value = f.value := by simp [updF, hsf, hx]
        have e2 : (r.any fun g => (p g && !decide (x.period = g.period)) && decide (g.period = f.period)) = r.any fun g => p g && decide (g.period = f.period) := by
          rw [Bool.eq_iff_iff]
          simp only [List.any_eq_true, Bool.and_eq_true, decide_eq_true_eq, Bool.not_eq_true', decide_eq_false_iff_not]
          constructor
          · rintro ⟨g, hg, ⟨h1, _⟩, h3⟩; exact ⟨g, hg, h1, h3⟩
          · rintro ⟨g, hg, h1, h3⟩; exact ⟨g, hg, ⟨h1, by rw [h3]; exact hx'⟩, h3⟩
        rw [e2, ev]
        simp only [Bool.true_and, Bool.false_or, Bool.not_false, Bool.and_true]
        omega
theorem share_floor {s n : Int} : shareF s n = s * n / 1000 := by
  have h : s * n = s % 1000 * n + 1000 * (s / 1000 * n) := by
    have := Int.emod_add_mul_ediv s 1000
    conv => lhs; rw [← this]
    rw [Int.add_mul, Int.mul_assoc]
  rw [h, Int.add_mul_ediv_left _ _ (by omega), shareF]
  omega
theorem share_mono_s {s t n : Int} (h : s ≤ t) (hn : 0 ≤ n) : shareF s n ≤ shareF t n := by
  rw [share_floor, share_floor]
  have := Int.mul_le_mul_of_nonneg_right h hn
  omega
theorem flast_cons {u : Fact} {r : List Fact} (h : r ≠ []) : nth (u :: r) ((u :: r).length - 1) = nth r (r.length - 1) := by
  cases r with
  | nil => exact absurd rfl h
  | cons v s => simp [nth, List.getD]
theorem fs_last : ∀ {l : List Fact} {d : Int}, fsOk d l = true → l ≠ [] → d ≤ (nth l (l.length - 1)).day ∧ ∀ u ∈ l, u.day ≤ (nth l (l.length - 1)).day
  | [u], d, h, _ => by
    simp only [fsOk, Bool.and_eq_true, decide_eq_true_eq] at h
    simp [nth, List.getD]; exact h.1.2
  | u :: v :: r, d, h, _ => by
    simp only [fsOk, Bool.and_eq_true, decide_eq_true_eq] at h
    have ih := fs_last (l := v :: r) (d := u.day) (by simp only [fsOk, Bool.and_eq_true, decide_eq_true_eq]; exact h.2) (by simp)
    rw [flast_cons (by simp)]
    refine ⟨by omega, fun x hx => ?_⟩
    rcases List.mem_cons.1 hx with rfl | hx
    · exact ih.1
    · exact ih.2 x hx
theorem fs_snoc : ∀ {l : List Fact} {d : Int} {u : Fact}, fsOk d l = true → oneF u = true → d ≤ u.day → (l ≠ [] → (nth l (l.length - 1)).day ≤ u.day) → fsOk d (l ++ [u]) = true
  | [], d, u, _, hu, hd, _ => by simp [fsOk, hu, hd]
  | v :: r, d, u, h, hu, hd, hl => by
    simp only [fsOk, Bool.and_eq_true, decide_eq_true_eq] at h
    simp only [List.cons_append, fsOk, Bool.and_eq_true, decide_eq_true_eq]
    have hall := fs_last (l := v :: r) (d := d) (by simp only [fsOk, Bool.and_eq_true, decide_eq_true_eq]; exact h) (by simp)
    have hv := hall.2 v (by simp)
    have hlast := hl (by simp)
    refine ⟨h.1, fs_snoc h.2 hu (by omega) fun hr => ?_⟩
    rw [flast_cons hr] at hlast
    exact hlast
theorem fs_upd {x : Fact} (hx : oneF x = true) : ∀ {l : List Fact} {d : Int}, fsOk d l = true → fsOk d (l.map (updF x)) = true
  | [], _, _ => rfl
  | f :: r, d, h => by
    simp only [fsOk, Bool.and_eq_true, decide_eq_true_eq] at h
    simp only [List.map_cons, fsOk, Bool.and_eq_true, decide_eq_true_eq, upd_keep.2.2.2]
    refine ⟨⟨?_, h.1.2⟩, fs_upd hx h.2⟩
    have h1 := h.1.1
    unfold updF
    split
    · simp [oneF] at h1 hx ⊢
      exact ⟨⟨⟨h1.1.1.1, hx.1.1.2⟩, hx.1.2⟩, h1.2⟩
    · exact h1
theorem add_cases (l : List Fact) (x : Fact) : (addF l x).2 ≠ 0 ∨ (addF l x = (l ++ [x], 0) ∧ factsF l = true ∧ oneF x = true ∧ l.length < 10000 ∧ (∀ f ∈ l, f.day ≤ x.day) ∧ factsF (l ++ [x]) = true ∧ factsF (l.map (updF x)) = true) := by
  unfold addF
  split
  · exact .inl (by simp)
  split
  · exact .inl (by simp)
  split
  · exact .inl (by simp)
  · rename_i h1 h2 h3
    simp only [Bool.not_eq_false, Bool.and_eq_true] at h1
    have h2' : earlyF l x = false := by simpa using h2
    have hlast : l ≠ [] → (nth l (l.length - 1)).day ≤ x.day := fun hne => by
      have hp : 0 < l.length := List.length_pos_iff.2 hne
      simp [earlyF, hp] at h2'
      exact h2'
    have hfs : fsOk 0 l = true := by have := h1.1; simp only [factsF, Bool.and_eq_true] at this; exact this.2
    have hlen : l.length < 10000 := by omega
    refine .inr ⟨rfl, h1.1, h1.2, hlen, fun f hf => ?_, ?_, ?_⟩
    · have hne : l ≠ [] := fun e => by subst e; cases hf
      have := (fs_last hfs hne).2 f hf
      have := hlast hne
      omega
    · simp [factsF, fs_snoc hfs h1.2 (one_day h1.2) hlast]; omega
    · simp [factsF, fs_upd h1.2 hfs]; omega
theorem sizeOk_fs {b : Basket} {fs gs : List Fact} {i d : Int} (h1 : factsF fs = true) (h2 : factsF gs = true) : sizeOk b fs i d = sizeOk b gs i d := by simp [sizeOk, h1, h2]
/-- the size with one report more -/
theorem reports_law {b : Basket} {l : List Fact} {x : Fact} {i d : Int} (hs : sizeOk b l i d = true) (h1 : factsF l = true) (h2 : oneF x = true) (h3 : ∀ f ∈ l, f.day ≤ x.day) (h4 : factsF (l ++ [x]) = true) (h5 : factsF (l.map (updF x)) = true) :
    sizeOk b (l ++ [x]) i d = true ∧ sizeOk b (l.map (updF x)) i d = true ∧ (aboutF b x i d = false → sizeF b (l ++ [x]) i d = sizeF b l i d) ∧
    (aboutF b x i d = true → (l.any (fun y => sameAs y x) = true → sizeF b (l ++ [x]) i d = sizeF b (l.map (updF x)) i d) ∧ (l.any (fun y => sameAs y x) = false → (sizeF b l i d).1 ≤ (sizeF b (l ++ [x]) i d).1)) := by
  have s1 : sizeOk b (l ++ [x]) i d = true := by rw [← sizeOk_fs h1 h4]; exact hs
  have s2 : sizeOk b (l.map (updF x)) i d = true := by rw [← sizeOk_fs h1 h5]; exact hs
  have hb := right_b hs
  refine ⟨s1, s2, fun ha => ?_, fun ha => ⟨fun hr => ?_, fun hr => ?_⟩⟩
  · rw [sizeF_ok hs, sizeF_ok s1, sumF, sumF, lastSum_snoc]
    simp [ha]
  · rw [sizeF_ok s1, sizeF_ok s2, sumF, sumF, lastSum_snoc]
    have hab := ha
    simp only [aboutF, Bool.and_eq_true, decide_eq_true_eq] at hab
    rw [lastSum_upd (p := fun f => aboutF b f i d) (x := x) (fun f => by simp [aboutF, upd_keep]) (fun f hf => by
      simp only [aboutF, Bool.and_eq_true, decide_eq_true_eq] at hf
      have e : decide (f.period = x.period) = decide (x.period = f.period) := by congr 1; rw [eq_iff_iff]; exact eq_comm
      simp [sameAs, hf.1.1, hf.1.2, hab.1.1, hab.1.2, e])]
    have hany : (l.any fun g => aboutF b g i d && decide (x.period = g.period)) = true := by
      obtain ⟨y, hy, hsy⟩ := List.any_eq_true.1 hr
      simp only [sameAs, Bool.and_eq_true, decide_eq_true_eq] at hsy
      refine List.any_eq_true.2 ⟨y, hy, ?_⟩
      have := h3 y hy
      simp [aboutF, hsy.1.1, hsy.1.2, hab.1.1, hab.1.2, hsy.2]; omega
    simp only [ha, hany, if_true, Bool.true_and]
  · have hab := ha
    simp only [aboutF, Bool.and_eq_true, decide_eq_true_eq] at hab
    rw [sizeF_ok hs, sizeF_ok s1]
    have hx : 0 ≤ x.value := by simp [oneF] at h2; omega
    have e : lastSum (fun f => aboutF b f i d) (l ++ [x]) = lastSum (fun f => aboutF b f i d) l + x.value := by
      rw [lastSum_snoc]
      simp only [ha, if_true, Bool.true_and]
      congr 1
      refine lastSum_congr fun f hf => ?_
      cases hp : aboutF b f i d with
      | false => rfl
      | true =>
        simp only [aboutF, Bool.and_eq_true, decide_eq_true_eq] at hp
        have hne : ¬ x.period = f.period := fun e => by
          have : l.any (fun y => sameAs y x) = true := List.any_eq_true.2 ⟨f, hf, by simp [sameAs, hp.1.1, hp.1.2, hab.1.1, hab.1.2, e]⟩
          rw [this] at hr; cases hr
        simp [hne]
    have hm := share_mono_s (s := sumF b l i d) (t := sumF b (l ++ [x]) i d) (n := b.share) (by unfold sumF; rw [e]; omega) hb.2.2.1.1
    simp only [sizeV]; omega
end Go.Proofs.Ytceggnkijedonaa
