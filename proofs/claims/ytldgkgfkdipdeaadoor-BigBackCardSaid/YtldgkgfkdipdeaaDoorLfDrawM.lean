/-
  Open regions by the sets of what has been carried out: each set's state is the one in which the first way comes to it; the other ways come to one that is as good.
-/
import Derived.Test.YtldgkgfkdipdeaaDoorLfAny
set_option linter.unusedVariables false
set_option linter.unusedSimpArgs false
namespace Lf
open Go Go.RowKit
abbrev MNode := List Bool × List (Nat × Nat)
section
variable {P : Program} {G : Ghost} {ops : Array Oper} {Ss : List St} {Q : St → Prop}
def MG (P : Program) (G : Ghost) (ops : Array Oper) (Ss : List St) : List (Nat × Nat) → St → Prop
  | [], _ => True
  | (i, t) :: r, S => (∃ o S', ops[i]? = some o ∧ Ss[t]? = some S' ∧ RG P G ops [o] (fun A' => Le A' S') S) ∧ MG P G ops Ss r S
def MN (P : Program) (G : Ghost) (ops : Array Oper) (Ss : List St) : List MNode → List St → Prop
  | (_, es) :: r, S :: Sr => MG P G ops Ss es S ∧ MN P G ops Ss r Sr
  | _, _ => True
theorem MG.nil {S : St} : MG P G ops Ss [] S := trivial
theorem MG.cons {i t : Nat} {o : Oper} {S S' : St} {es : List (Nat × Nat)} (ho : ops[i]? = some o) (hS : Ss[t]? = some S') (h : RG P G ops [o] (fun A' => Le A' S') S) (h' : MG P G ops Ss es S) : MG P G ops Ss ((i, t) :: es) S := ⟨⟨o, S', ho, hS, h⟩, h'⟩
theorem MN.nil {Sr : List St} : MN P G ops Ss [] Sr := by unfold MN; trivial
theorem MN.cons {L : List Bool} {es : List (Nat × Nat)} {S : St} {r : List MNode} {Sr : List St} (h : MG P G ops Ss es S) (h' : MN P G ops Ss r Sr) : MN P G ops Ss ((L, es) :: r) (S :: Sr) := ⟨h, h'⟩
theorem MG.get : ∀ {es : List (Nat × Nat)} {S : St}, MG P G ops Ss es S → ∀ i t, (i, t) ∈ es → ∃ o S', ops[i]? = some o ∧ Ss[t]? = some S' ∧ RG P G ops [o] (fun A' => Le A' S') S
  | (i0, t0) :: es, S, h, i, t, hm => by
    rcases List.mem_cons.1 hm with e | hm
    · cases e; exact h.1
    · exact MG.get h.2 i t hm
theorem MN.get : ∀ {nodes : List MNode} {Sr : List St}, MN P G ops Ss nodes Sr → ∀ (k : Nat) (L : List Bool) (es : List (Nat × Nat)) (S : St), nodes[k]? = some (L, es) → Sr[k]? = some S → MG P G ops Ss es S
  | (L0, es0) :: r, S0 :: Sr, h, 0, L, es, S, h1, h2 => by
    simp at h1 h2
    obtain ⟨rfl, rfl⟩ := h1
    subst h2
    exact h.1
  | (L0, es0) :: r, S0 :: Sr, h, k + 1, L, es, S, h1, h2 => MN.get h.2 k L es S (by simpa using h1) (by simpa using h2)
  | [], _, _, k, L, es, S, h1, _ => by simp at h1
  | _ :: _, [], _, k, L, es, S, _, h2 => by simp at h2
theorem count_setM : ∀ {L : List Bool} {i : Nat}, L.getD i true = false → (L.set i true).count false + 1 = L.count false
  | [], i, h => by simp at h
  | b :: L, 0, h => by simp at h; subst h; simp
  | b :: L, i + 1, h => by
    have := count_setM (L := L) (i := i) (by simpa using h)
    simp only [List.set_cons_succ, List.count_cons]; omega
/-- the graph: what is ready at each set, and where each step leads -/
def memoOk (ops : Array Oper) (nodes : List MNode) : Bool :=
  nodes.all (fun e => Region.ready .any ops e.1.toArray == e.2.map (·.1) && e.2.all (fun x => (e.1.getD x.1 true == false) && (match nodes[x.2]? with | some e' => e'.1 == e.1.set x.1 true | none => false)) && (!e.2.isEmpty || e.1.count false == 0))
  && (List.range nodes.length).all (fun k => match nodes[k]? with | some e => !e.2.isEmpty || k + 1 == nodes.length | none => true)
theorem RA.memo {nodes : List MNode} (hk : memoOk ops nodes = true) (hlen : Ss.length = nodes.length) (h : MN P G ops Ss nodes Ss) (hQ : ∀ S, Ss[nodes.length - 1]? = some S → Q S) :
    ∀ (fuel k : Nat) (L : List Bool) (es : List (Nat × Nat)) (S : St), nodes[k]? = some (L, es) → Ss[k]? = some S → L.count false = fuel → RA P G ops fuel L Q S := by
  unfold memoOk at hk
  rw [Bool.and_eq_true] at hk
  obtain ⟨hk1, hk2⟩ := hk
  have at' : ∀ k L es, nodes[k]? = some (L, es) → Region.ready .any ops L.toArray = es.map (·.1) ∧ (∀ i t, (i, t) ∈ es → L.getD i true = false ∧ ∃ es', nodes[t]? = some (L.set i true, es')) ∧ (es = [] → L.count false = 0 ∧ k + 1 = nodes.length) := fun k L es hn => by
    have h1 := List.all_eq_true.1 hk1 _ (List.mem_of_getElem? hn)
    have hkl := (List.getElem?_eq_some_iff.1 hn).1
    have h2 := List.all_eq_true.1 hk2 k (List.mem_range.2 hkl)
    rw [hn] at h2
    simp only [Bool.and_eq_true, beq_iff_eq, Bool.or_eq_true, Bool.not_eq_true', List.all_eq_true] at h1 h2
    obtain ⟨⟨a1, a2⟩, a3⟩ := h1
    refine ⟨a1, fun i t hm => ?_, fun e => ?_⟩
    · obtain ⟨b1, b2⟩ := a2 (i, t) hm
      refine ⟨b1, ?_⟩
      cases hn' : nodes[t]? with
      | none => rw [hn'] at b2; simp at b2
      | some e' =>
        rw [hn'] at b2
        simp only [beq_iff_eq] at b2
        exact ⟨e'.2, by rw [← b2]⟩
    · subst e
      simp at a3 h2
      exact ⟨a3, h2⟩
  intro fuel
  induction fuel with
  | zero =>
    intro k L es S hn hS hc
    obtain ⟨h1, h2, h3⟩ := at' k L es hn
    have he : es = [] := by
      cases es with
      | nil => rfl
      | cons x es =>
        have := count_setM (h2 x.1 x.2 (by simp)).1
        omega
    subst he
    have := (h3 rfl).2
    exact RA.done h1 (hQ S (by rw [show nodes.length - 1 = k by omega]; exact hS))
  | succ fuel ih =>
    intro k L es S hn hS hc
    obtain ⟨h1, h2, h3⟩ := at' k L es hn
    have hg := h.get k L es S hn hS
    cases es with
    | nil => have := (h3 rfl).1; omega
    | cons x0 es0 =>
      refine RA.step (i := x0.1) (is := es0.map fun x => x.1) (by rw [h1]; rfl) ?_
      have key : ∀ js : List (Nat × Nat), (∀ x ∈ js, x ∈ x0 :: es0) → RAll P G ops fuel L Q S (js.map (·.1)) := by
        intro js
        induction js with
        | nil => intro _; exact RAll.nil
        | cons j js ihj =>
          intro hjs
          have hj := hjs j (by simp)
          obtain ⟨o, S', ho, hS', hr⟩ := hg.get j.1 j.2 hj
          obtain ⟨b1, es', b2⟩ := h2 j.1 j.2 hj
          have hcs := count_setM b1
          refine RAll.cons ho (fun Φ β a w hs Q' hq => hr Φ β a w hs Q' fun A1 Φ1 β1 a1 w1 q1 s1 l1 => ?_) (ihj fun i hi => hjs i (List.mem_cons_of_mem _ hi))
          refine hq A1 Φ1 β1 a1 w1 ?_ s1 l1
          intro Φ2 β2 a2 w2 hs2 Q2 hq2
          obtain ⟨Φ3, β3, l3, s3⟩ := q1 G Φ2 β2 a2 w2 hs2
          exact ih j.2 (L.set j.1 true) es' S' b2 hS' (by omega) Φ3 β3 a2 w2 s3 Q2 fun A4 Φ4 β4 a4 w4 q4 s4 l4 => hq2 A4 Φ4 β4 a4 w4 q4 s4 (Frz.le_trans l3 l4)
      exact key _ fun i hi => hi
theorem W.drawM {id : Nat} {l : List Oper} {Q : Exit → St → Prop} {A S0 Sn : St} {Sr : List St} {L0 : List Bool} {es0 : List (Nat × Nat)} {nr : List MNode} (nodes : List MNode) (Ss : List St) (hm : P.follows .mixedOrders = true) (hk : memoOk l.toArray nodes = true) (hn : nodes = (L0, es0) :: nr) (hL : List.replicate l.length false = L0) (hS : Ss = S0 :: Sr) (hlen : Nat.beq Ss.length nodes.length = true)
    (hl : Le A S0) (h : MN P G l.toArray Ss nodes Ss) (he : Ss[nodes.length - 1]? = some Sn) (hQ : Q .normal Sn) : W P G (.region id l.toArray true) Q A := by
  refine W.weaken hl (W.drawA hm hL ?_)
  exact RA.memo (Q := Q .normal) hk (Nat.eq_of_beq_eq_true hlen) h (fun S hS' => by rw [he] at hS'; cases hS'; exact hQ) l.length 0 L0 es0 S0 (by rw [hn]; rfl) (by rw [hS]; rfl) (by rw [← hL]; simp)
end
/-! ### states that are as good: entries that a later one hides are passed over -/
theorem Le.get {A B : St} (hn : B.n = A.n) (he : ∀ t q v, lk B.env t = some (q, v) → lk A.env t = some (q, v) ∧ NameOK A.blks B.blks v) (hb : ∀ n C, lk B.blks n = some C → lk A.blks n = some C) : Le A B := fun G Φ β a w hs => by
  refine ⟨Φ, β, Φ.le_refl, hs.kept, hs.fits, hs.old, by rw [hn]; exact hs.siz, hs.dfr, fun t q v h => ?_, fun n C b cap h1 h2 => hs.blk n C b cap (hb _ _ h1) h2, fun n C h1 h2 => hs.vir n C (hb _ _ h1) h2, fun n n' C C' b c c' h1 h2 h3 h4 => hs.inj n n' C C' b c c' (hb _ _ h1) (hb _ _ h2) h3 h4⟩
  obtain ⟨h1, h2⟩ := he t q v h
  refine ⟨fun hq => ?_, (hs.env t q v h1).2⟩
  have h3 := (hs.env t q v h1).1 hq
  cases v with
  | pv p => exact h3
  | tup l => exact h3
  | top => trivial
  | addr n i off =>
    obtain ⟨b, cap, C, g1, g2, g3⟩ := h3
    exact ⟨b, cap, C, g1, by rw [show lk B.blks n = lk A.blks n from h2]; exact g2, g3⟩
  | slc n =>
    obtain ⟨C, g2, g3⟩ := h3
    exact ⟨C, by rw [show lk B.blks n = lk A.blks n from h2]; exact g2, g3⟩
  | mp n =>
    obtain ⟨b, cap, C, g1, g2, g3⟩ := h3
    exact ⟨b, cap, C, g1, by rw [show lk B.blks n = lk A.blks n from h2]; exact g2, g3⟩
  | itr d n =>
    obtain ⟨b, cap, C, M, c, g1, g2, g3, g4, g5, g6⟩ := h3
    exact ⟨b, cap, C, M, c, g1, by rw [h2.1]; exact g2, g3, g4, by rw [h2.2]; exact g5, g6⟩
  | pin n b0 c0 f =>
    obtain ⟨C, g1, g2, g3⟩ := h3
    exact ⟨C, g1, by rw [show lk B.blks n = lk A.blks n from h2]; exact g2, g3⟩
def SubEK (A : St) (bl' : List (Nat × Blk)) : List Nat → List (Nat × (Prop × AV)) → Prop
  | _, [] => True
  | seen, (t, (q, v)) :: r => (t ∈ seen ∨ (lk A.env t = some (q, v) ∧ NameOK A.blks bl' v)) ∧ SubEK A bl' (t :: seen) r
def SubBK (A : St) : List Nat → List (Nat × Blk) → Prop
  | _, [] => True
  | seen, (n, B) :: r => (n ∈ seen ∨ lk A.blks n = some B) ∧ SubBK A (n :: seen) r
theorem SubEK.get {A : St} {bl' : List (Nat × Blk)} : ∀ {env : List (Nat × (Prop × AV))} {seen : List Nat}, SubEK A bl' seen env → ∀ t q v, t ∉ seen → lk env t = some (q, v) → lk A.env t = some (q, v) ∧ NameOK A.blks bl' v
  | [], _, _, t, q, v, _, h => by simp [lk] at h
  | (s, (q0, v0)) :: r, seen, hs, t, q, v, hns, h => by
    rw [lk_cons] at h
    split at h
    · rename_i e; subst e
      simp only [Option.some.injEq, Prod.mk.injEq] at h
      obtain ⟨rfl, rfl⟩ := h
      rcases hs.1 with h1 | h1
      · exact absurd h1 hns
      · exact h1
    · rename_i e
      exact SubEK.get hs.2 t q v (fun hm => (List.mem_cons.1 hm).elim (fun q => e q.symm) hns) h
theorem SubBK.get {A : St} : ∀ {bl : List (Nat × Blk)} {seen : List Nat}, SubBK A seen bl → ∀ n B, n ∉ seen → lk bl n = some B → lk A.blks n = some B
  | [], _, _, n, B, _, h => by simp [lk] at h
  | (m, B0) :: r, seen, hs, n, B, hns, h => by
    rw [lk_cons] at h
    split at h
    · rename_i e; subst e
      obtain rfl := Option.some.inj h
      rcases hs.1 with h1 | h1
      · exact absurd h1 hns
      · exact h1
    · rename_i e
      exact SubBK.get hs.2 n B (fun hm => (List.mem_cons.1 hm).elim (fun q => e q.symm) hns) h
theorem Le.st {A : St} {n : Nat} {env : List (Nat × (Prop × AV))} {bl : List (Nat × Blk)} (hn : n = A.n) (he : SubEK A bl [] env) (hb : SubBK A [] bl) : Le A (St.mk n env bl) :=
  Le.get (B := St.mk n env bl) hn (fun t q v h => he.get t q v (by simp) h) (fun n B h => hb.get n B (by simp) h)
theorem SubEK.nil {A : St} {bl : List (Nat × Blk)} {seen : List Nat} : SubEK A bl seen [] := trivial
theorem SubEK.one {A : St} {bl : List (Nat × Blk)} {seen : List Nat} {t : Nat} {q : Prop} {v : AV} {r : List (Nat × (Prop × AV))} (h : lk A.env t = some (q, v)) (hn : NameOK A.blks bl v) (hr : SubEK A bl (t :: seen) r) : SubEK A bl seen ((t, (q, v)) :: r) := ⟨.inr ⟨h, hn⟩, hr⟩
theorem SubEK.skip {A : St} {bl : List (Nat × Blk)} {seen : List Nat} {t : Nat} {e : Prop × AV} {r : List (Nat × (Prop × AV))} (h : seen.any (Nat.beq t) = true) (hr : SubEK A bl (t :: seen) r) : SubEK A bl seen ((t, e) :: r) := ⟨.inl (by
  obtain ⟨x, hx, he⟩ := List.any_eq_true.1 h
  rw [Nat.eq_of_beq_eq_true he]; exact hx), hr⟩
theorem SubBK.nil {A : St} {seen : List Nat} : SubBK A seen [] := trivial
theorem SubBK.one {A : St} {seen : List Nat} {n : Nat} {B : Blk} {r : List (Nat × Blk)} (h : lk A.blks n = some B) (hr : SubBK A (n :: seen) r) : SubBK A seen ((n, B) :: r) := ⟨.inr h, hr⟩
theorem SubBK.skip {A : St} {seen : List Nat} {n : Nat} {B : Blk} {r : List (Nat × Blk)} (h : seen.any (Nat.beq n) = true) (hr : SubBK A (n :: seen) r) : SubBK A seen ((n, B) :: r) := ⟨.inl (by
  obtain ⟨x, hx, he⟩ := List.any_eq_true.1 h
  rw [Nat.eq_of_beq_eq_true he]; exact hx), hr⟩
attribute [irreducible] SubEK SubBK
attribute [irreducible] MG MN
end Lf
