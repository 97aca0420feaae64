/-
  What is not read any more is dropped: ahead of a region the state keeps the slots that the code behind still reads, and the blocks that they name.
-/
import Derived.Test.YtipghibmgfhmpaaGreatDoorLfRules
set_option linter.unusedVariables false
set_option linter.unusedSimpArgs false
namespace Lf
open Go
def PN (A : St) : List Nat → List (Nat × (Prop × AV)) → List Nat → Prop
  | [], E, ns => E = [] ∧ ns = []
  | t :: ts, E, ns => PN A ts E ns ∨ ∃ q v E' ns', lk A.env t = some (q, v) ∧ E = (t, (q, v)) :: E' ∧ PN A ts E' ns' ∧
      match v with
      | .addr n _ _ | .slc n | .mp n | .pin n _ _ _ => ns = n :: ns'
      | .itr d n => ns = d :: n :: ns'
      | _ => ns = ns'
def PB (A : St) : List Nat → List (Nat × Blk) → Prop
  | [], bl => bl = []
  | n :: ns, bl => ∃ B bl', lk A.blks n = some B ∧ bl = (n, B) :: bl' ∧ PB A ns bl'
section
variable {A : St} {ts ns : List Nat} {t : Nat} {q : Prop} {E : List (Nat × (Prop × AV))} {bl : List (Nat × Blk)}
theorem PN.nil : PN A [] [] [] := ⟨rfl, rfl⟩
theorem PN.skip (h : PN A ts E ns) : PN A (t :: ts) E ns := .inl h
theorem PN.p {p : PV} (h : lk A.env t = some (q, .pv p)) (hr : PN A ts E ns) : PN A (t :: ts) ((t, (q, .pv p)) :: E) ns := .inr ⟨_, _, _, _, h, rfl, hr, rfl⟩
theorem PN.u {l : List PV} (h : lk A.env t = some (q, .tup l)) (hr : PN A ts E ns) : PN A (t :: ts) ((t, (q, .tup l)) :: E) ns := .inr ⟨_, _, _, _, h, rfl, hr, rfl⟩
theorem PN.a {n i off : Nat} (h : lk A.env t = some (q, .addr n i off)) (hr : PN A ts E ns) : PN A (t :: ts) ((t, (q, .addr n i off)) :: E) (n :: ns) := .inr ⟨_, _, _, _, h, rfl, hr, rfl⟩
theorem PN.s {n : Nat} (h : lk A.env t = some (q, .slc n)) (hr : PN A ts E ns) : PN A (t :: ts) ((t, (q, .slc n)) :: E) (n :: ns) := .inr ⟨_, _, _, _, h, rfl, hr, rfl⟩
theorem PN.m {n : Nat} (h : lk A.env t = some (q, .mp n)) (hr : PN A ts E ns) : PN A (t :: ts) ((t, (q, .mp n)) :: E) (n :: ns) := .inr ⟨_, _, _, _, h, rfl, hr, rfl⟩
theorem PN.k {n b c : Nat} {f : Nat → Value} (h : lk A.env t = some (q, .pin n b c f)) (hr : PN A ts E ns) : PN A (t :: ts) ((t, (q, .pin n b c f)) :: E) (n :: ns) := .inr ⟨_, _, _, _, h, rfl, hr, rfl⟩
theorem PN.i {d n : Nat} (h : lk A.env t = some (q, .itr d n)) (hr : PN A ts E ns) : PN A (t :: ts) ((t, (q, .itr d n)) :: E) (d :: n :: ns) := .inr ⟨_, _, _, _, h, rfl, hr, rfl⟩
def NR (l m : List Cell) : Prop := l = m
theorem NR.nil {l : List Cell} (h : l = []) : NR l [] := h
theorem NR.cons {l r m : List Cell} {c : Cell} (h : l = c :: r) (h' : NR r m) : NR l (c :: m) := by
  have e : r = m := h'
  subst e; exact h
theorem PN.pa {l l' : List Cell} (h : lk A.env t = some (q, .pv (.agg l))) (hl : NR l l') (hr : PN A ts E ns) : PN A (t :: ts) ((t, (q, .pv (.agg l'))) :: E) ns := by
  have e : l = l' := hl
  subst e; exact PN.p h hr
theorem PN.po {c : Cell} (h : lk A.env t = some (q, .pv (.one c))) (hr : PN A ts E ns) : PN A (t :: ts) ((t, (q, .pv (.one c))) :: E) ns := PN.p h hr
theorem PB.nil : PB A [] [] := rfl
theorem PB.one {n T sz : Nat} {B : Blk} {row row' : List Cell} (h : lk A.blks n = some B) (hT : B.E = T) (hs : B.sz = sz) (hrow : B.rows = [row]) (hr' : NR row row') (hr : PB A ns bl) : PB A (n :: ns) ((n, ⟨T, sz, [row']⟩) :: bl) := by
  have e : row = row' := hr'
  subst e
  obtain ⟨a, b, c⟩ := B
  simp only at hT hs hrow
  subst hT; subst hs; subst hrow
  exact ⟨_, _, h, rfl, hr⟩
theorem PB.rw {n T sz : Nat} {B : Blk} {rows : List (List Cell)} (h : lk A.blks n = some B) (hT : B.E = T) (hs : B.sz = sz) (hrow : B.rows = rows) (hr : PB A ns bl) : PB A (n :: ns) ((n, ⟨T, sz, rows⟩) :: bl) := by
  obtain ⟨a, b, c⟩ := B
  simp only at hT hs hrow
  subst hT; subst hs; subst hrow
  exact ⟨_, _, h, rfl, hr⟩
theorem PB.cons {n T sz : Nat} {rows : List (List Cell)} (h : lk A.blks n = some ⟨T, sz, rows⟩) (hr : PB A ns bl) : PB A (n :: ns) ((n, ⟨T, sz, rows⟩) :: bl) := ⟨_, _, h, rfl, hr⟩
end
theorem PB.get {A : St} : ∀ {ns : List Nat} {bl : List (Nat × Blk)}, PB A ns bl → ∀ n ∈ ns, lk bl n = lk A.blks n
  | [], _, _, n, hn => by cases hn
  | m :: ns, _, ⟨B, bl', h1, rfl, h2⟩, n, hn => by
    rw [lk_cons]
    split
    · rename_i e; subst e; exact h1.symm
    · rename_i e
      rcases List.mem_cons.1 hn with rfl | hn
      · exact absurd rfl e
      · exact PB.get h2 n hn
theorem PB.sub {A : St} : ∀ {ns : List Nat} {bl : List (Nat × Blk)}, PB A ns bl → SubB A bl
  | [], _, h => by
    have e : _ = [] := h
    rw [e]; trivial
  | m :: ns, _, ⟨B, bl', h1, rfl, h2⟩ => ⟨h1, PB.sub h2⟩
theorem PN.sub {A : St} {bl : List (Nat × Blk)} : ∀ {ts : List Nat} {E : List (Nat × (Prop × AV))} {ns : List Nat}, PN A ts E ns → (∀ n ∈ ns, lk bl n = lk A.blks n) → SubE A bl E
  | [], _, _, h, _ => by
    obtain ⟨rfl, _⟩ := (h : _ = [] ∧ _ = [])
    trivial
  | t :: ts, E, ns, h, hn => by
    rcases (h : PN A ts E ns ∨ _) with h | ⟨q, v, E', ns', h1, rfl, h2, h3⟩
    · exact PN.sub h hn
    · refine ⟨⟨h1, ?_⟩, PN.sub h2 fun n hm => hn n ?_⟩
      · cases v with
        | pv p => trivial
        | tup l => trivial
        | top => trivial
        | addr n i off => exact hn n (by rw [show ns = n :: ns' from h3]; simp)
        | slc n => exact hn n (by rw [show ns = n :: ns' from h3]; simp)
        | mp n => exact hn n (by rw [show ns = n :: ns' from h3]; simp)
        | pin n b c f => exact hn n (by rw [show ns = n :: ns' from h3]; simp)
        | itr d n => exact ⟨hn d (by rw [show ns = d :: n :: ns' from h3]; simp), hn n (by rw [show ns = d :: n :: ns' from h3]; simp)⟩
      · cases v with
        | pv p => rw [show ns = ns' from h3]; exact hm
        | tup l => rw [show ns = ns' from h3]; exact hm
        | top => rw [show ns = ns' from h3]; exact hm
        | addr m i off => rw [show ns = m :: ns' from h3]; exact List.mem_cons_of_mem _ hm
        | slc m => rw [show ns = m :: ns' from h3]; exact List.mem_cons_of_mem _ hm
        | mp m => rw [show ns = m :: ns' from h3]; exact List.mem_cons_of_mem _ hm
        | pin m b c f => rw [show ns = m :: ns' from h3]; exact List.mem_cons_of_mem _ hm
        | itr d m => rw [show ns = d :: m :: ns' from h3]; exact List.mem_cons_of_mem _ (List.mem_cons_of_mem _ hm)
theorem W.purgeR {P : Program} {G : Ghost} {Q : Exit → St → Prop} {n id : Nat} {env : List (Nat × (Prop × AV))} {bl0 : List (Nat × Blk)} {ops : Array Oper} {late : Bool} {y : Code} {ts ns : List Nat} {E : List (Nat × (Prop × AV))} {bl : List (Nat × Blk)} (tab : List (Nat × List Nat)) (ht : lk tab id = some ts)
    (hp : PN (St.mk n env bl0) ts E ns) (hb : PB (St.mk n env bl0) ns bl) (hw : W P G (.region id ops late) (Then (W P G y Q) Q) (St.mk n E bl)) : W P G (.seq (.region id ops late) y) Q (St.mk n env bl0) :=
  W.seq (W.weaken (Le.mk (B := St.mk n E bl) rfl (PN.sub hp (PB.get hb)) (PB.sub hb)) hw)
theorem W.cutR {P : Program} {G : Ghost} {A : St} {Q : Exit → St → Prop} {ops : Array Oper} {late : Bool} {y : Code} (id : Nat) (n : Nat) (keep : List Nat) (f : List (Nat × (Prop × AV))) (bl : List (Nat × Blk)) {E : List (Nat × (Prop × AV))} (hp : Pick A keep E)
    (hx : W P G (.region id ops late) (Then (fun A' => Le A' (mkSt n f E bl)) Q) A) (hy : W P G y Q (mkSt n f E bl)) : W P G (.seq (.region id ops late) y) Q A := by
  refine W.cutP (σ := Unit) n keep (fun _ => True) (fun _ => f) (fun _ => bl) hp (W.mono hx fun e A' h => ?_) (fun _ _ => hy)
  cases e with
  | normal => exact ⟨(), trivial, h⟩
  | exit id => exact h
  | goto id => exact h
  | ret => exact h
  | panic c => exact h
  | outgrown => exact h
attribute [irreducible] PN PB NR
end Lf
