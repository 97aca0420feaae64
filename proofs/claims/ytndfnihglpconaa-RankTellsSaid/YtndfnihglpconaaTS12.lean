/-
  Part 12 of what the proof rests on.
-/
import Derived.Test.YtndfnihglpconaaTS10
import Derived.Test.YtndfnihglpconaaTS07
import Derived.Test.YtndfnihglpconaaTS08
set_option linter.unusedVariables false
set_option linter.unusedSimpArgs false
set_option maxHeartbeats 8000000
namespace Go.Proofs.Ytndfnihglpconaa
open Lf Go
attribute [local irreducible] PureOp EffOp Ev RG W Then InBlock Lf.Fin nth App InitE Pick SubE EvL EvD EvP EvR ResL Lf.Lex SubR SubBR FinO FinM ResM ResD FinS val pw digs trimL
section
open RankLaw
structure Fq where
  s : Int
  d : List Int
  s' : Int
  d' : List Int
instance : Inhabited Fq := ⟨⟨0, [], 0, []⟩⟩
abbrev encF (q : Fq) : List Cell := [.int .i64 q.s, .sl (q.d.map Lf.encI), .int .i64 q.s', .sl (q.d'.map Lf.encI)]
abbrev slF (l : List Fq) : PV := .one (.sl (l.map encF))
def fqOf (r : Rat) : Fq := ⟨sgn r.num, digs (mag r.num), sgn r.den, digs (mag r.den)⟩
theorem slF_of (L : List Rat) : (L.map fqOf).map encF = L.map encQ := by rw [List.map_map]; rfl
def Fq.right (q : Fq) : Bool := rightFB q.s q.d q.s' q.d'
def FqOk (L : List Fq) : Prop := ∀ q ∈ L, q.d.length ≤ 9223372036854775807 ∧ q.d'.length ≤ 9223372036854775807
theorem Fq.rat {q : Fq} (h : q.right = true) : ∃ r : Rat, okF r ∧ q = fqOf r := by
  obtain ⟨r, h1, h2, h3, h4, h5⟩ := frac_of h
  refine ⟨r, h1, ?_⟩
  cases q
  simp only at h2 h3 h4 h5
  rw [h2, h3, h4, h5]; rfl
theorem fqs_of {L : List Fq} (h : ∀ q ∈ L, q.right = true) : ∃ R : List Rat, (∀ r ∈ R, okF r) ∧ L = R.map fqOf := by
  induction L with
  | nil => exact ⟨[], by simp, rfl⟩
  | cons q L ih =>
    obtain ⟨R, h1, h2⟩ := ih fun x hx => h x (List.mem_cons_of_mem _ hx)
    obtain ⟨r, h3, h4⟩ := Fq.rat (h q (List.mem_cons_self ..))
    refine ⟨r :: R, fun x hx => ?_, by rw [h2, h4]; rfl⟩
    rcases List.mem_cons.1 hx with rfl | hx
    · exact h3
    · exact h1 x hx
def lst (l : List Cl) (R : List Rat) : Nat → Int
  | 0 => 10
  | j + 1 => if nth R j < ((nth l j).amt : Rat) then (if (nth l j).rank ≤ lst l R j then (nth l j).rank else lst l R j) else lst l R j
theorem lst_le (l : List Cl) (R : List Rat) : ∀ j, lst l R j ≤ 10
  | 0 => Int.le_refl _
  | j + 1 => by
    have := lst_le l R j
    rw [lst]
    repeat' split
    all_goals omega
theorem lst_of (l : List Cl) (R : List Rat) : ∀ j i, i < j → nth R i < ((nth l i).amt : Rat) → lst l R j ≤ (nth l i).rank
  | 0, i, h, _ => by omega
  | j + 1, i, h, hs => by
    rw [lst]
    by_cases e : i = j
    · subst e
      rw [if_pos hs]
      split <;> omega
    · have := lst_of l R j i (by omega) hs
      repeat' split
      all_goals omega
theorem lst_ex (l : List Cl) (R : List Rat) : ∀ j, lst l R j = 10 ∨ ∃ i, i < j ∧ nth R i < ((nth l i).amt : Rat) ∧ (nth l i).rank = lst l R j
  | 0 => .inl rfl
  | j + 1 => by
    rw [lst]
    by_cases h1 : nth R j < ((nth l j).amt : Rat)
    · rw [if_pos h1]
      by_cases h2 : (nth l j).rank ≤ lst l R j
      · rw [if_pos h2]
        exact .inr ⟨j, by omega, h1, rfl⟩
      · rw [if_neg h2]
        rcases lst_ex l R j with h | ⟨i, h3, h4⟩
        · exact .inl h
        · exact .inr ⟨i, by omega, h4⟩
    · rw [if_neg h1]
      rcases lst_ex l R j with h | ⟨i, h3, h4⟩
      · exact .inl h
      · exact .inr ⟨i, by omega, h4⟩
attribute [local irreducible] sgn mag gcdZ quoZ remZ fullZ fullE
theorem cmpR_lt (a b : Rat) : (cmpR a b < 0) ↔ a < b := by
  rcases cmpR_cases a b with h | h | h
  · exact ⟨fun _ => h.2, fun _ => by omega⟩
  · exact ⟨fun _ => by omega, fun k => by have := h.2; grind⟩
  · exact ⟨fun _ => by omega, fun k => by have := h.2; grind⟩
/-- not right, or not as many -/
theorem short_arg (l : List Cl) (L : List Fq) (hl : l.length ≤ 9223372036854775807) (hL : L.length ≤ 9223372036854775807) (h : ¬ (rightC l = true ∧ L.length = l.length)) : ACalls Try.prog 11 [slC l, slF L] (.tup [cI 0, cB false]) := by
  have p1 := pright_ok l hl
  have hbad : (rightC l = true ∧ (L.length : Int) = l.length) → False := fun q => h ⟨q.1, by omega⟩
  generalize rightC l = b at *
  refine ACalls.of_W (qs := [cI 0, cB false]) [4, 5] 49 Try.func11 (by kernel_rfl) rfl rfl rfl fun G => ?_
  refine W.initA (hw := ?_)
  repeat' (first | ((first | apply U_ | (apply Ug_; exact rfl; exact rfl) | (apply Ugq_; exact rfl; exact rfl) | apply Lex.u | (apply Lex.g; exact rfl; exact rfl) | (apply Lex.gq; exact rfl; exact rfl)); (first | exact QX.B TYok | exact QX.Num TYok | exact QX.Len TYok | exact QX.Idx TYok | exact QCd (p1)); exact rfl) | refine SX.Alloc TYok (h := ?_) | refine SX.Store TYok (h := ?_) | refine SC ?_ | (apply S_isnil TYok; exact rfl; exact rfl; exact rfl; exact Ev.auto; intro bn hnil) | refine SG ?_ | (apply W.draw2 (id := 9) [0, 0, 3, 7, 0, 16, 48, 127, 255] [[1], [7], [32, 33], [34], [8], [36], [37], [35, 38], [39]] 9 [(32, 2), (33, 128), (34, 12884901888), (35, 17179869184), (36, 256), (37, 68719476736), (38, 137438953472), (39, 309237645312), (40, 549755813888)] mixed (by kernel_rfl) rfl rfl) | (refine W.condA (ht := fun hb => ?_) (hf := fun hb => ?_) <;> (try simp at hb) <;> (try (exfalso; first | exact hbad hb | omega))))
  all_goals first
    | exact Fin.ret ResL.auto
    | (exfalso; simp_all; done)
    | trace_state
theorem rshort_arg (l : List Cl) (L : List Fq) (hl : l.length ≤ 9223372036854775807) (hL : L.length ≤ 9223372036854775807) (h : ¬ (rightC l = true ∧ L.length = l.length)) : ACalls Try.prog 12 [slC l, slF L] (.tup [cI 0, cB false]) := by
  have p1 := rrightC_ok l hl
  have hbad : (rightC l = true ∧ (L.length : Int) = l.length) → False := fun q => h ⟨q.1, by omega⟩
  generalize rightC l = b at *
  refine ACalls.of_W (qs := [cI 0, cB false]) [4, 5] 63 Try.func12 (by kernel_rfl) rfl rfl rfl fun G => ?_
  refine W.initA (hw := ?_)
  repeat' (first | ((first | apply U_ | (apply Ug_; exact rfl; exact rfl) | (apply Ugq_; exact rfl; exact rfl) | apply Lex.u | (apply Lex.g; exact rfl; exact rfl) | (apply Lex.gq; exact rfl; exact rfl)); (first | exact QX.B TYok | exact QX.Len TYok | exact QX.Idx TYok | exact QCd (p1)); exact rfl) | refine SC ?_ | (apply S_isnil TYok; exact rfl; exact rfl; exact rfl; exact Ev.auto; intro bn hnil) | refine SG ?_ | (apply W.draw2 (id := 14) [0, 0, 3, 7, 15, 0, 63, 127, 255, 255, 1023, 2047, 255, 255, 12543, 28927, 61695, 127231, 262143, 524287, 1048575] [[0], [8], [41, 42], [43], [44], [7], [45, 46], [47], [1, 48], [8, 48], [49, 50, 48], [51, 48], [0, 48], [8, 48], [53, 54, 48], [55, 48], [56, 48], [57, 48], [52, 58, 48], [59, 48], [48, 60]] 21 [(41, 1), (42, 256), (43, 6597069766656), (44, 8796093022208), (45, 17592186044416), (46, 128), (47, 105553116266496), (48, 140737488355328), (49, 281474976710658), (50, 281474976710912), (51, 1970324836974592), (52, 2533274790395904), (53, 281474976710657), (54, 281474976710912), (55, 27303072740933632), (56, 36310271995674624), (57, 72339069014638592), (58, 144396663052566528), (59, 293015450755792896), (60, 576742227280134144), (61, 1153202979583557632)] mixed (by kernel_rfl) rfl rfl) | (refine W.condA (ht := fun hb => ?_) (hf := fun hb => ?_) <;> (try simp at hb) <;> (try (exfalso; first | exact hbad hb | omega))))
  all_goals first
    | exact Fin.ret ResL.auto
    | (exfalso; simp_all; done)
    | trace_state
/-- all right so far -/
def okU (L : List Fq) (j : Nat) : Prop := ∀ i, i < j → (nth L i).right = true
theorem okU.next {L : List Fq} {j : Nat} (h : okU L j) (hj : (nth L j).right = true) : okU L (j + 1) := fun i hi => by
  by_cases e : i = j
  · subst e; exact hj
  · exact h i (by omega)
theorem short_no (l : List Cl) (L : List Fq) (hc : rightC l = true) (hL : L.length = l.length) (hq : FqOk L) (h : ¬ ∀ q ∈ L, q.right = true) : ACalls Try.prog 11 [slC l, slF L] (.tup [cI 0, cB false]) := by
  obtain ⟨hok, ha, hl⟩ := rightC_yes hc
  have p1 := pright_ok l (by omega)
  rw [hc] at p1
  refine ACalls.of_W (qs := [cI 0, cB false]) [4, 5] 49 Try.func11 (by kernel_rfl) rfl rfl rfl fun G => ?_
  refine W.initA (hw := ?_)
  repeat' (first | ((first | apply U_ | (apply Ug_; exact rfl; exact rfl) | (apply Ugq_; exact rfl; exact rfl) | apply Lex.u | (apply Lex.g; exact rfl; exact rfl) | (apply Lex.gq; exact rfl; exact rfl)); (first | exact QX.B TYok | exact QX.Num TYok | exact QX.Len TYok | exact QX.Idx TYok | exact QCd (p1)); exact rfl) | refine SX.Alloc TYok (h := ?_) | refine SX.Store TYok (h := ?_) | refine SC ?_ | (apply S_isnil TYok; exact rfl; exact rfl; exact rfl; exact Ev.auto; intro bn hnil) | refine SG ?_ | (apply W.draw2 (id := 9) [0, 0, 3, 7, 0, 16, 48, 127, 255] [[1], [7], [32, 33], [34], [8], [36], [37], [35, 38], [39]] 9 [(32, 2), (33, 128), (34, 12884901888), (35, 17179869184), (36, 256), (37, 68719476736), (38, 137438953472), (39, 309237645312), (40, 549755813888)] mixed (by kernel_rfl) rfl rfl) | (refine W.condA (ht := fun hb => ?_) (hf := fun hb => ?_) <;> (try simp at hb) <;> (try (exfalso; omega))))
  apply W.loopP (σ := (Nat × Int)) 49 [1, 19, 20] (fun z => z.1 ≤ l.length ∧ okU L z.1 ∧ 0 ≤ z.2 ∧ z.2 ≤ 10) (fun z => [(21, vI z.1), (6, vI z.2)]) (fun _ => []) (fun z => l.length - z.1) ((0, 10))
  case hp => repeat (first | exact Pick.nil | apply Pick.cons rfl)
  case h0 =>
    refine ⟨⟨by omega, fun i hi => by omega, by simp, by simp⟩, ?_⟩
    exact Le.auto
  case round =>
    rintro ⟨j, m⟩ ⟨g1, g2, g3, g4⟩
    apply W.norm (by repeat (first | exact App.nil | apply App.cons))
    simp only at g1 g2 g3 g4
    by_cases hj : j < l.length
    · have hm := nth_mem (l := L) (show j < L.length by omega)
      have c := amt_nth ha hj
      have kk := hok _ (nth_mem hj)
      have k1 := kk.1
      have k2 := kk.2.1
      have r1 := fright_ok (nth L j).s (nth L j).d (nth L j).s' (nth L j).d' (hq _ hm).1 (hq _ hm).2
      have w1 := whole_ok (nth l j).amt (by unfold i64B; omega)
      cases hb2 : (nth L j).right with
      | false =>
        rw [show rightFB (nth L j).s (nth L j).d (nth L j).s' (nth L j).d' = false from hb2] at r1
        repeat' (first | ((first | apply U_ | (apply Ug_; exact rfl; exact rfl) | (apply Ugq_; exact rfl; exact rfl) | apply Lex.u | (apply Lex.g; exact rfl; exact rfl) | (apply Lex.gq; exact rfl; exact rfl)); (first | exact QX.B TYok | exact QX.Num TYok | exact QX.Len TYok | exact QX.Idx TYok | exact QCd (r1)); exact rfl) | refine SX.Alloc TYok (h := ?_) | refine SX.Store TYok (h := ?_) | refine SC ?_ | (apply S_isnil TYok; exact rfl; exact rfl; exact rfl; exact Ev.auto; intro bn hnil) | refine SG ?_ | (apply W.draw2 (id := 9) [0, 0, 3, 7, 0, 16, 48, 127, 255] [[1], [7], [32, 33], [34], [8], [36], [37], [35, 38], [39]] 9 [(32, 2), (33, 128), (34, 12884901888), (35, 17179869184), (36, 256), (37, 68719476736), (38, 137438953472), (39, 309237645312), (40, 549755813888)] mixed (by kernel_rfl) rfl rfl) | (refine W.condA (ht := fun hb => ?_) (hf := fun hb => ?_) <;> (try simp at hb) <;> (try (exfalso; omega))))
        all_goals first
          | exact Fin.ret ResL.auto
          | trace_state
      | true =>
        rw [show rightFB (nth L j).s (nth L j).d (nth L j).s' (nth L j).d' = true from hb2] at r1
        obtain ⟨r, or, hr⟩ := Fq.rat hb2
        have f1 := fcmp_ok r ((nth l j).amt : Rat) or (okF_int (by unfold i64B; omega))
        have hr2 : ACalls Try.prog 26 [fB (nth L j).s (nth L j).d (nth L j).s' (nth L j).d', zF ((nth l j).amt : Rat)] (.pv (cI (cmpR r ((nth l j).amt : Rat)))) := by rw [hr]; exact f1
        generalize cmpR r ((nth l j).amt : Rat) = C at *
        repeat' (first | ((first | apply U_ | (apply Ug_; exact rfl; exact rfl) | (apply Ugq_; exact rfl; exact rfl) | apply Lex.u | (apply Lex.g; exact rfl; exact rfl) | (apply Lex.gq; exact rfl; exact rfl)); (first | exact QX.B TYok | exact QX.Num TYok | exact QX.Len TYok | exact QX.Idx TYok | exact QCd (r1) | exact QCd (w1) | exact QCd (hr2)); exact rfl) | refine SX.Alloc TYok (h := ?_) | refine SX.Store TYok (h := ?_) | refine SC ?_ | (apply S_isnil TYok; exact rfl; exact rfl; exact rfl; exact Ev.auto; intro bn hnil) | refine SG ?_ | (apply W.draw2 (id := 9) [0, 0, 3, 7, 0, 16, 48, 127, 255] [[1], [7], [32, 33], [34], [8], [36], [37], [35, 38], [39]] 9 [(32, 2), (33, 128), (34, 12884901888), (35, 17179869184), (36, 256), (37, 68719476736), (38, 137438953472), (39, 309237645312), (40, 549755813888)] mixed (by kernel_rfl) rfl rfl) | (refine W.condA (ht := fun hb => ?_) (hf := fun hb => ?_) <;> (try simp at hb) <;> (try (exfalso; omega))))
        all_goals first
          | (refine ⟨(j + 1, m), ⟨by simp only; omega, g2.next hb2, g3, g4⟩, ?_, by simp only; omega⟩; exact Le.auto)
          | (refine ⟨(j + 1, min m (nth l j).rank), ⟨by simp only; omega, g2.next hb2, by simp only; omega, by simp only; omega⟩, ?_, by simp only; omega⟩; exact Le.auto)
          | trace_state
    · obtain rfl : j = l.length := by omega
      exact absurd (fun q hq' => by
        obtain ⟨i, hi, rfl⟩ := List.getElem_of_mem hq'
        rw [← nth_eq hi]
        exact g2 i (by omega)) h
theorem pshort_ok (l : List Cl) (R : List Rat) (hc : rightC l = true) (hR : R.length = l.length) (ho : ∀ r ∈ R, okF r) : ACalls Try.prog 11 [slC l, slQ R] (.tup [cI (if lst l R l.length = 10 then 0 else lst l R l.length), cB (decide (lst l R l.length ≠ 10))]) := by
  obtain ⟨hok, ha, hl⟩ := rightC_yes hc
  have p1 := pright_ok l (by omega)
  rw [hc] at p1
  refine ACalls.of_W (qs := [cI (if lst l R l.length = 10 then 0 else lst l R l.length), cB (decide (lst l R l.length ≠ 10))]) [4, 5] 49 Try.func11 (by kernel_rfl) rfl rfl rfl fun G => ?_
  refine W.initA (hw := ?_)
  repeat' (first | ((first | apply U_ | (apply Ug_; exact rfl; exact rfl) | (apply Ugq_; exact rfl; exact rfl) | apply Lex.u | (apply Lex.g; exact rfl; exact rfl) | (apply Lex.gq; exact rfl; exact rfl)); (first | exact QX.B TYok | exact QX.Num TYok | exact QX.Len TYok | exact QX.Idx TYok | exact QCd (p1)); exact rfl) | refine SX.Alloc TYok (h := ?_) | refine SX.Store TYok (h := ?_) | refine SC ?_ | (apply S_isnil TYok; exact rfl; exact rfl; exact rfl; exact Ev.auto; intro bn hnil) | refine SG ?_ | (apply W.draw2 (id := 9) [0, 0, 3, 7, 0, 16, 48, 127, 255] [[1], [7], [32, 33], [34], [8], [36], [37], [35, 38], [39]] 9 [(32, 2), (33, 128), (34, 12884901888), (35, 17179869184), (36, 256), (37, 68719476736), (38, 137438953472), (39, 309237645312), (40, 549755813888)] mixed (by kernel_rfl) rfl rfl) | (refine W.condA (ht := fun hb => ?_) (hf := fun hb => ?_) <;> (try simp at hb) <;> (try (exfalso; omega))))
  apply W.loopP (σ := Nat) 49 [1, 19, 20] (fun z => z ≤ l.length) (fun z => [(21, vI z), (6, vI (lst l R z))]) (fun _ => []) (fun z => l.length - z) (0)
  case hp => repeat (first | exact Pick.nil | apply Pick.cons rfl)
  case h0 =>
    refine ⟨by omega, ?_⟩
    exact Le.auto
  case round =>
    rintro j g1
    apply W.norm (by repeat (first | exact App.nil | apply App.cons))
    by_cases hj : j < l.length
    · have c := amt_nth ha hj
      have or := ho _ (nth_mem (l := R) (show j < R.length by omega))
      have r1 := fright_yes (nth R j) or
      have w1 := whole_ok (nth l j).amt (by unfold i64B; omega)
      have f1 := fcmp_ok (nth R j) ((nth l j).amt : Rat) or (okF_int (by unfold i64B; omega))
      have hlt := cmpR_lt (nth R j) ((nth l j).amt : Rat)
      have e1 : lst l R (j + 1) = if cmpR (nth R j) ((nth l j).amt : Rat) < 0 then min (lst l R j) (nth l j).rank else lst l R j := by
        rw [lst]
        by_cases h : nth R j < ((nth l j).amt : Rat)
        · rw [if_pos h, if_pos (hlt.2 h)]; split <;> omega
        · rw [if_neg h, if_neg fun k => h (hlt.1 k)]
      clear hlt
      generalize lst l R j = m at *
      generalize cmpR (nth R j) ((nth l j).amt : Rat) = C at *
      repeat' (first | ((first | apply U_ | (apply Ug_; exact rfl; exact rfl) | (apply Ugq_; exact rfl; exact rfl) | apply Lex.u | (apply Lex.g; exact rfl; exact rfl) | (apply Lex.gq; exact rfl; exact rfl)); (first | exact QX.B TYok | exact QX.Num TYok | exact QX.Len TYok | exact QX.Idx TYok | exact QCd (r1) | exact QCd (w1) | exact QCd (f1)); exact rfl) | refine SX.Alloc TYok (h := ?_) | refine SX.Store TYok (h := ?_) | refine SC ?_ | (apply S_isnil TYok; exact rfl; exact rfl; exact rfl; exact Ev.auto; intro bn hnil) | refine SG ?_ | (apply W.draw2 (id := 9) [0, 0, 3, 7, 0, 16, 48, 127, 255] [[1], [7], [32, 33], [34], [8], [36], [37], [35, 38], [39]] 9 [(32, 2), (33, 128), (34, 12884901888), (35, 17179869184), (36, 256), (37, 68719476736), (38, 137438953472), (39, 309237645312), (40, 549755813888)] mixed (by kernel_rfl) rfl rfl) | (refine W.condA (ht := fun hb => ?_) (hf := fun hb => ?_) <;> (try simp at hb) <;> (try (exfalso; omega))))
      all_goals first
        | (refine ⟨j + 1, by omega, ?_, by omega⟩; (try dsimp only); rw [e1, if_neg (by omega)]; exact Le.auto)
        | (refine ⟨j + 1, by omega, ?_, by omega⟩; (try dsimp only); rw [e1, if_pos (by omega)]; exact Le.auto)
        | trace_state
    · obtain rfl : j = l.length := by omega
      have hle := lst_le l R l.length
      generalize lst l R l.length = m at *
      by_cases h10 : m = 10
      · subst h10
        rw [if_pos rfl, decide_eq_false (by simp)]
        repeat' (first | ((first | apply U_ | (apply Ug_; exact rfl; exact rfl) | (apply Ugq_; exact rfl; exact rfl) | apply Lex.u | (apply Lex.g; exact rfl; exact rfl) | (apply Lex.gq; exact rfl; exact rfl)); (first | exact QX.B TYok | exact QX.Num TYok | exact QX.Len TYok | exact QX.Idx TYok); exact rfl) | refine SX.Alloc TYok (h := ?_) | refine SX.Store TYok (h := ?_) | refine SC ?_ | (apply S_isnil TYok; exact rfl; exact rfl; exact rfl; exact Ev.auto; intro bn hnil) | refine SG ?_ | (apply W.draw2 (id := 9) [0, 0, 3, 7, 0, 16, 48, 127, 255] [[1], [7], [32, 33], [34], [8], [36], [37], [35, 38], [39]] 9 [(32, 2), (33, 128), (34, 12884901888), (35, 17179869184), (36, 256), (37, 68719476736), (38, 137438953472), (39, 309237645312), (40, 549755813888)] mixed (by kernel_rfl) rfl rfl) | (refine W.condA (ht := fun hb => ?_) (hf := fun hb => ?_) <;> (try simp at hb) <;> (try (exfalso; omega))))
        all_goals exact Fin.ret ResL.auto
      · rw [if_neg h10, decide_eq_true h10]
        repeat' (first | ((first | apply U_ | (apply Ug_; exact rfl; exact rfl) | (apply Ugq_; exact rfl; exact rfl) | apply Lex.u | (apply Lex.g; exact rfl; exact rfl) | (apply Lex.gq; exact rfl; exact rfl)); (first | exact QX.B TYok | exact QX.Num TYok | exact QX.Len TYok | exact QX.Idx TYok); exact rfl) | refine SX.Alloc TYok (h := ?_) | refine SX.Store TYok (h := ?_) | refine SC ?_ | (apply S_isnil TYok; exact rfl; exact rfl; exact rfl; exact Ev.auto; intro bn hnil) | refine SG ?_ | (apply W.draw2 (id := 9) [0, 0, 3, 7, 0, 16, 48, 127, 255] [[1], [7], [32, 33], [34], [8], [36], [37], [35, 38], [39]] 9 [(32, 2), (33, 128), (34, 12884901888), (35, 17179869184), (36, 256), (37, 68719476736), (38, 137438953472), (39, 309237645312), (40, 549755813888)] mixed (by kernel_rfl) rfl rfl) | (refine W.condA (ht := fun hb => ?_) (hf := fun hb => ?_) <;> (try simp at hb) <;> (try (exfalso; omega))))
        all_goals exact Fin.ret ResL.auto
theorem rshort_no (l : List Cl) (L : List Fq) (hc : rightC l = true) (hL : L.length = l.length) (hq : FqOk L) (h : ¬ ∀ q ∈ L, q.right = true) : ACalls Try.prog 12 [slC l, slF L] (.tup [cI 0, cB false]) := by
  obtain ⟨hok, ha, hl⟩ := rightC_yes hc
  have p1 := rrightC_ok l (by omega)
  rw [hc] at p1
  refine ACalls.of_W (qs := [cI 0, cB false]) [4, 5] 63 Try.func12 (by kernel_rfl) rfl rfl rfl fun G => ?_
  refine W.initA (hw := ?_)
  repeat' (first | ((first | apply U_ | (apply Ug_; exact rfl; exact rfl) | (apply Ugq_; exact rfl; exact rfl) | apply Lex.u | (apply Lex.g; exact rfl; exact rfl) | (apply Lex.gq; exact rfl; exact rfl)); (first | exact QX.B TYok | exact QX.Len TYok | exact QX.Idx TYok | exact QCd (p1)); exact rfl) | refine SC ?_ | (apply S_isnil TYok; exact rfl; exact rfl; exact rfl; exact Ev.auto; intro bn hnil) | refine SG ?_ | (apply W.draw2 (id := 14) [0, 0, 3, 7, 15, 0, 63, 127, 255, 255, 1023, 2047, 255, 255, 12543, 28927, 61695, 127231, 262143, 524287, 1048575] [[0], [8], [41, 42], [43], [44], [7], [45, 46], [47], [1, 48], [8, 48], [49, 50, 48], [51, 48], [0, 48], [8, 48], [53, 54, 48], [55, 48], [56, 48], [57, 48], [52, 58, 48], [59, 48], [48, 60]] 21 [(41, 1), (42, 256), (43, 6597069766656), (44, 8796093022208), (45, 17592186044416), (46, 128), (47, 105553116266496), (48, 140737488355328), (49, 281474976710658), (50, 281474976710912), (51, 1970324836974592), (52, 2533274790395904), (53, 281474976710657), (54, 281474976710912), (55, 27303072740933632), (56, 36310271995674624), (57, 72339069014638592), (58, 144396663052566528), (59, 293015450755792896), (60, 576742227280134144), (61, 1153202979583557632)] mixed (by kernel_rfl) rfl rfl) | (refine W.condA (ht := fun hb => ?_) (hf := fun hb => ?_) <;> (try simp at hb) <;> (try (exfalso; omega))))
  apply W.loopP (σ := Nat) 63 [0, 1] (fun z => z ≤ l.length ∧ okU L z) (fun z => [(6, vI z)]) (fun _ => []) (fun z => l.length - z) (0)
  case hp => repeat (first | exact Pick.nil | apply Pick.cons rfl)
  case h0 =>
    refine ⟨⟨by omega, fun i hi => by omega⟩, ?_⟩
    exact Le.auto
  case round =>
    rintro j ⟨g1, g2⟩
    apply W.norm (by repeat (first | exact App.nil | apply App.cons))
    by_cases hj : j < l.length
    · have hm := nth_mem (l := L) (show j < L.length by omega)
      have r1 := qright_ok (nth L j).s (nth L j).d (nth L j).s' (nth L j).d' (hq _ hm).1 (hq _ hm).2
      cases hb2 : (nth L j).right with
      | false =>
        rw [show rightFB (nth L j).s (nth L j).d (nth L j).s' (nth L j).d' = false from hb2] at r1
        repeat' (first | ((first | apply U_ | (apply Ug_; exact rfl; exact rfl) | (apply Ugq_; exact rfl; exact rfl) | apply Lex.u | (apply Lex.g; exact rfl; exact rfl) | (apply Lex.gq; exact rfl; exact rfl)); (first | exact QX.B TYok | exact QX.Len TYok | exact QX.Idx TYok | exact QCd (r1)); exact rfl) | refine SC ?_ | (apply S_isnil TYok; exact rfl; exact rfl; exact rfl; exact Ev.auto; intro bn hnil) | refine SG ?_ | (apply W.draw2 (id := 14) [0, 0, 3, 7, 15, 0, 63, 127, 255, 255, 1023, 2047, 255, 255, 12543, 28927, 61695, 127231, 262143, 524287, 1048575] [[0], [8], [41, 42], [43], [44], [7], [45, 46], [47], [1, 48], [8, 48], [49, 50, 48], [51, 48], [0, 48], [8, 48], [53, 54, 48], [55, 48], [56, 48], [57, 48], [52, 58, 48], [59, 48], [48, 60]] 21 [(41, 1), (42, 256), (43, 6597069766656), (44, 8796093022208), (45, 17592186044416), (46, 128), (47, 105553116266496), (48, 140737488355328), (49, 281474976710658), (50, 281474976710912), (51, 1970324836974592), (52, 2533274790395904), (53, 281474976710657), (54, 281474976710912), (55, 27303072740933632), (56, 36310271995674624), (57, 72339069014638592), (58, 144396663052566528), (59, 293015450755792896), (60, 576742227280134144), (61, 1153202979583557632)] mixed (by kernel_rfl) rfl rfl) | (refine W.condA (ht := fun hb => ?_) (hf := fun hb => ?_) <;> (try simp at hb) <;> (try (exfalso; omega))))
        all_goals first
          | exact Fin.ret ResL.auto
          | trace_state
      | true =>
        rw [show rightFB (nth L j).s (nth L j).d (nth L j).s' (nth L j).d' = true from hb2] at r1
        repeat' (first | ((first | apply U_ | (apply Ug_; exact rfl; exact rfl) | (apply Ugq_; exact rfl; exact rfl) | apply Lex.u | (apply Lex.g; exact rfl; exact rfl) | (apply Lex.gq; exact rfl; exact rfl)); (first | exact QX.B TYok | exact QX.Len TYok | exact QX.Idx TYok | exact QCd (r1)); exact rfl) | refine SC ?_ | (apply S_isnil TYok; exact rfl; exact rfl; exact rfl; exact Ev.auto; intro bn hnil) | refine SG ?_ | (apply W.draw2 (id := 14) [0, 0, 3, 7, 15, 0, 63, 127, 255, 255, 1023, 2047, 255, 255, 12543, 28927, 61695, 127231, 262143, 524287, 1048575] [[0], [8], [41, 42], [43], [44], [7], [45, 46], [47], [1, 48], [8, 48], [49, 50, 48], [51, 48], [0, 48], [8, 48], [53, 54, 48], [55, 48], [56, 48], [57, 48], [52, 58, 48], [59, 48], [48, 60]] 21 [(41, 1), (42, 256), (43, 6597069766656), (44, 8796093022208), (45, 17592186044416), (46, 128), (47, 105553116266496), (48, 140737488355328), (49, 281474976710658), (50, 281474976710912), (51, 1970324836974592), (52, 2533274790395904), (53, 281474976710657), (54, 281474976710912), (55, 27303072740933632), (56, 36310271995674624), (57, 72339069014638592), (58, 144396663052566528), (59, 293015450755792896), (60, 576742227280134144), (61, 1153202979583557632)] mixed (by kernel_rfl) rfl rfl) | (refine W.condA (ht := fun hb => ?_) (hf := fun hb => ?_) <;> (try simp at hb) <;> (try (exfalso; omega))))
        all_goals first
          | (refine ⟨j + 1, ⟨by omega, g2.next hb2⟩, ?_, by omega⟩; exact Le.auto)
          | trace_state
    · obtain rfl : j = l.length := by omega
      exact absurd (fun q hq' => by
        obtain ⟨i, hi, rfl⟩ := List.getElem_of_mem hq'
        rw [← nth_eq hi]
        exact g2 i (by omega)) h
theorem rshort_ok (l : List Cl) (R : List Rat) (hc : rightC l = true) (hR : R.length = l.length) (ho : ∀ r ∈ R, okF r) : ACalls Try.prog 12 [slC l, slQ R] (.tup [cI (if lst l R l.length = 10 then 0 else lst l R l.length), cB (decide (lst l R l.length ≠ 10))]) := by
  obtain ⟨hok, ha, hl⟩ := rightC_yes hc
  have p1 := rrightC_ok l (by omega)
  rw [hc] at p1
  have hle := lst_le l R l.length
  have hex := lst_ex l R l.length
  have hof := lst_of l R l.length
  generalize lst l R l.length = m at *
  refine ACalls.of_W (qs := [cI (if m = 10 then 0 else m), cB (decide (m ≠ 10))]) [4, 5] 63 Try.func12 (by kernel_rfl) rfl rfl rfl fun G => ?_
  refine W.initA (hw := ?_)
  repeat' (first | ((first | apply U_ | (apply Ug_; exact rfl; exact rfl) | (apply Ugq_; exact rfl; exact rfl) | apply Lex.u | (apply Lex.g; exact rfl; exact rfl) | (apply Lex.gq; exact rfl; exact rfl)); (first | exact QX.B TYok | exact QX.Len TYok | exact QX.Idx TYok | exact QCd (p1)); exact rfl) | refine SC ?_ | (apply S_isnil TYok; exact rfl; exact rfl; exact rfl; exact Ev.auto; intro bn hnil) | refine SG ?_ | (apply W.draw2 (id := 14) [0, 0, 3, 7, 15, 0, 63, 127, 255, 255, 1023, 2047, 255, 255, 12543, 28927, 61695, 127231, 262143, 524287, 1048575] [[0], [8], [41, 42], [43], [44], [7], [45, 46], [47], [1, 48], [8, 48], [49, 50, 48], [51, 48], [0, 48], [8, 48], [53, 54, 48], [55, 48], [56, 48], [57, 48], [52, 58, 48], [59, 48], [48, 60]] 21 [(41, 1), (42, 256), (43, 6597069766656), (44, 8796093022208), (45, 17592186044416), (46, 128), (47, 105553116266496), (48, 140737488355328), (49, 281474976710658), (50, 281474976710912), (51, 1970324836974592), (52, 2533274790395904), (53, 281474976710657), (54, 281474976710912), (55, 27303072740933632), (56, 36310271995674624), (57, 72339069014638592), (58, 144396663052566528), (59, 293015450755792896), (60, 576742227280134144), (61, 1153202979583557632)] mixed (by kernel_rfl) rfl rfl) | (refine W.condA (ht := fun hb => ?_) (hf := fun hb => ?_) <;> (try simp at hb) <;> (try (exfalso; omega))))
  apply W.loopP (σ := Nat) 63 [0, 1] (fun z => z ≤ l.length) (fun z => [(6, vI z)]) (fun _ => []) (fun z => l.length - z) (0)
  case hp => repeat (first | exact Pick.nil | apply Pick.cons rfl)
  case h0 =>
    refine ⟨by omega, ?_⟩
    exact Le.auto
  case round =>
    rintro j g1
    apply W.norm (by repeat (first | exact App.nil | apply App.cons))
    by_cases hj : j < l.length
    · have r1 := qright_yes (nth R j) (ho _ (nth_mem (l := R) (show j < R.length by omega)))
      repeat' (first | ((first | apply U_ | (apply Ug_; exact rfl; exact rfl) | (apply Ugq_; exact rfl; exact rfl) | apply Lex.u | (apply Lex.g; exact rfl; exact rfl) | (apply Lex.gq; exact rfl; exact rfl)); (first | exact QX.B TYok | exact QX.Len TYok | exact QX.Idx TYok | exact QCd (r1)); exact rfl) | refine SC ?_ | (apply S_isnil TYok; exact rfl; exact rfl; exact rfl; exact Ev.auto; intro bn hnil) | refine SG ?_ | (apply W.draw2 (id := 14) [0, 0, 3, 7, 15, 0, 63, 127, 255, 255, 1023, 2047, 255, 255, 12543, 28927, 61695, 127231, 262143, 524287, 1048575] [[0], [8], [41, 42], [43], [44], [7], [45, 46], [47], [1, 48], [8, 48], [49, 50, 48], [51, 48], [0, 48], [8, 48], [53, 54, 48], [55, 48], [56, 48], [57, 48], [52, 58, 48], [59, 48], [48, 60]] 21 [(41, 1), (42, 256), (43, 6597069766656), (44, 8796093022208), (45, 17592186044416), (46, 128), (47, 105553116266496), (48, 140737488355328), (49, 281474976710658), (50, 281474976710912), (51, 1970324836974592), (52, 2533274790395904), (53, 281474976710657), (54, 281474976710912), (55, 27303072740933632), (56, 36310271995674624), (57, 72339069014638592), (58, 144396663052566528), (59, 293015450755792896), (60, 576742227280134144), (61, 1153202979583557632)] mixed (by kernel_rfl) rfl rfl) | (refine W.condA (ht := fun hb => ?_) (hf := fun hb => ?_) <;> (try simp at hb) <;> (try (exfalso; omega))))
      all_goals first
        | (refine ⟨j + 1, by omega, ?_, by omega⟩; exact Le.auto)
        | trace_state
    · obtain rfl : j = l.length := by omega
      repeat' (first | ((first | apply U_ | (apply Ug_; exact rfl; exact rfl) | (apply Ugq_; exact rfl; exact rfl) | apply Lex.u | (apply Lex.g; exact rfl; exact rfl) | (apply Lex.gq; exact rfl; exact rfl)); (first | exact QX.B TYok | exact QX.Len TYok | exact QX.Idx TYok); exact rfl) | refine SC ?_ | (apply S_isnil TYok; exact rfl; exact rfl; exact rfl; exact Ev.auto; intro bn hnil) | refine SG ?_ | (apply W.draw2 (id := 14) [0, 0, 3, 7, 15, 0, 63, 127, 255, 255, 1023, 2047, 255, 255, 12543, 28927, 61695, 127231, 262143, 524287, 1048575] [[0], [8], [41, 42], [43], [44], [7], [45, 46], [47], [1, 48], [8, 48], [49, 50, 48], [51, 48], [0, 48], [8, 48], [53, 54, 48], [55, 48], [56, 48], [57, 48], [52, 58, 48], [59, 48], [48, 60]] 21 [(41, 1), (42, 256), (43, 6597069766656), (44, 8796093022208), (45, 17592186044416), (46, 128), (47, 105553116266496), (48, 140737488355328), (49, 281474976710658), (50, 281474976710912), (51, 1970324836974592), (52, 2533274790395904), (53, 281474976710657), (54, 281474976710912), (55, 27303072740933632), (56, 36310271995674624), (57, 72339069014638592), (58, 144396663052566528), (59, 293015450755792896), (60, 576742227280134144), (61, 1153202979583557632)] mixed (by kernel_rfl) rfl rfl) | (refine W.condA (ht := fun hb => ?_) (hf := fun hb => ?_) <;> (try simp at hb) <;> (try (exfalso; omega))))
      apply W.loopP (σ := Nat) 63 [0, 1] (fun k => (k : Int) ≤ m) (fun k => [(7, vI k)]) (fun _ => []) (fun k => 10 - k) (0)
      case hp => repeat (first | exact Pick.nil | apply Pick.cons rfl)
      case h0 =>
        refine ⟨?_, ?_⟩
        · rcases hex with h | ⟨i, h1, _, h2⟩
          · omega
          · have := (hok _ (nth_mem h1)).1
            omega
        exact Le.auto
      case round =>
        rintro k gk
        apply W.norm (by repeat (first | exact App.nil | apply App.cons))
        by_cases hk : k < 10
        · repeat' (first | ((first | apply U_ | (apply Ug_; exact rfl; exact rfl) | (apply Ugq_; exact rfl; exact rfl) | apply Lex.u | (apply Lex.g; exact rfl; exact rfl) | (apply Lex.gq; exact rfl; exact rfl)); (first | exact QX.B TYok | exact QX.Len TYok | exact QX.Idx TYok); exact rfl) | refine SC ?_ | (apply S_isnil TYok; exact rfl; exact rfl; exact rfl; exact Ev.auto; intro bn hnil) | refine SG ?_ | (apply W.draw2 (id := 14) [0, 0, 3, 7, 15, 0, 63, 127, 255, 255, 1023, 2047, 255, 255, 12543, 28927, 61695, 127231, 262143, 524287, 1048575] [[0], [8], [41, 42], [43], [44], [7], [45, 46], [47], [1, 48], [8, 48], [49, 50, 48], [51, 48], [0, 48], [8, 48], [53, 54, 48], [55, 48], [56, 48], [57, 48], [52, 58, 48], [59, 48], [48, 60]] 21 [(41, 1), (42, 256), (43, 6597069766656), (44, 8796093022208), (45, 17592186044416), (46, 128), (47, 105553116266496), (48, 140737488355328), (49, 281474976710658), (50, 281474976710912), (51, 1970324836974592), (52, 2533274790395904), (53, 281474976710657), (54, 281474976710912), (55, 27303072740933632), (56, 36310271995674624), (57, 72339069014638592), (58, 144396663052566528), (59, 293015450755792896), (60, 576742227280134144), (61, 1153202979583557632)] mixed (by kernel_rfl) rfl rfl) | (refine W.condA (ht := fun hb => ?_) (hf := fun hb => ?_) <;> (try simp at hb) <;> (try (exfalso; omega))))
          apply W.loopP (σ := Nat) 63 [0, 1, 7] (fun i => i ≤ l.length ∧ ∀ i', i' < i → nth R i' < ((nth l i').amt : Rat) → (nth l i').rank ≠ k) (fun i => [(8, vI i)]) (fun _ => []) (fun i => l.length - i) (0)
          case hp => repeat (first | exact Pick.nil | apply Pick.cons rfl)
          case h0 =>
            refine ⟨⟨by omega, fun i' hi => by omega⟩, ?_⟩
            exact Le.auto
          case round =>
            rintro i ⟨q1, q2⟩
            apply W.norm (by repeat (first | exact App.nil | apply App.cons))
            by_cases hi : i < l.length
            · have c := amt_nth ha hi
              have or := ho _ (nth_mem (l := R) (show i < R.length by omega))
              have w1 := qwhole_ok (nth l i).amt (by unfold i64B; omega)
              have f1 := qcmp_ok (nth R i) ((nth l i).amt : Rat) or (okF_int (by unfold i64B; omega))
              have hlt := cmpR_lt (nth R i) ((nth l i).amt : Rat)
              generalize cmpR (nth R i) ((nth l i).amt : Rat) = C at *
              by_cases hs : (nth l i).rank = k ∧ C < 0
              · have e : m = k := by
                  have := hof i hi (hlt.1 hs.2)
                  omega
                rw [if_neg (show ¬ m = 10 by omega), decide_eq_true (show m ≠ 10 by omega), e]
                have hbad : ((nth l i).rank = (k : Int) → ¬ C < 0) → False := fun q => q hs.1 hs.2
                repeat' (first | ((first | apply U_ | (apply Ug_; exact rfl; exact rfl) | (apply Ugq_; exact rfl; exact rfl) | apply Lex.u | (apply Lex.g; exact rfl; exact rfl) | (apply Lex.gq; exact rfl; exact rfl)); (first | exact QX.B TYok | exact QX.Len TYok | exact QX.Idx TYok | exact QCd (w1) | exact QCd (f1)); exact rfl) | refine SC ?_ | (apply S_isnil TYok; exact rfl; exact rfl; exact rfl; exact Ev.auto; intro bn hnil) | refine SG ?_ | (apply W.draw2 (id := 14) [0, 0, 3, 7, 15, 0, 63, 127, 255, 255, 1023, 2047, 255, 255, 12543, 28927, 61695, 127231, 262143, 524287, 1048575] [[0], [8], [41, 42], [43], [44], [7], [45, 46], [47], [1, 48], [8, 48], [49, 50, 48], [51, 48], [0, 48], [8, 48], [53, 54, 48], [55, 48], [56, 48], [57, 48], [52, 58, 48], [59, 48], [48, 60]] 21 [(41, 1), (42, 256), (43, 6597069766656), (44, 8796093022208), (45, 17592186044416), (46, 128), (47, 105553116266496), (48, 140737488355328), (49, 281474976710658), (50, 281474976710912), (51, 1970324836974592), (52, 2533274790395904), (53, 281474976710657), (54, 281474976710912), (55, 27303072740933632), (56, 36310271995674624), (57, 72339069014638592), (58, 144396663052566528), (59, 293015450755792896), (60, 576742227280134144), (61, 1153202979583557632)] mixed (by kernel_rfl) rfl rfl) | (refine W.condA (ht := fun hb => ?_) (hf := fun hb => ?_) <;> (try simp at hb) <;> (try (exfalso; first | exact hbad hb | omega))))
                all_goals first
                  | exact Fin.ret ResL.auto
                  | (exfalso; omega)
                  | trace_state
              · repeat' (first | ((first | apply U_ | (apply Ug_; exact rfl; exact rfl) | (apply Ugq_; exact rfl; exact rfl) | apply Lex.u | (apply Lex.g; exact rfl; exact rfl) | (apply Lex.gq; exact rfl; exact rfl)); (first | exact QX.B TYok | exact QX.Len TYok | exact QX.Idx TYok | exact QCd (w1) | exact QCd (f1)); exact rfl) | refine SC ?_ | (apply S_isnil TYok; exact rfl; exact rfl; exact rfl; exact Ev.auto; intro bn hnil) | refine SG ?_ | (apply W.draw2 (id := 14) [0, 0, 3, 7, 15, 0, 63, 127, 255, 255, 1023, 2047, 255, 255, 12543, 28927, 61695, 127231, 262143, 524287, 1048575] [[0], [8], [41, 42], [43], [44], [7], [45, 46], [47], [1, 48], [8, 48], [49, 50, 48], [51, 48], [0, 48], [8, 48], [53, 54, 48], [55, 48], [56, 48], [57, 48], [52, 58, 48], [59, 48], [48, 60]] 21 [(41, 1), (42, 256), (43, 6597069766656), (44, 8796093022208), (45, 17592186044416), (46, 128), (47, 105553116266496), (48, 140737488355328), (49, 281474976710658), (50, 281474976710912), (51, 1970324836974592), (52, 2533274790395904), (53, 281474976710657), (54, 281474976710912), (55, 27303072740933632), (56, 36310271995674624), (57, 72339069014638592), (58, 144396663052566528), (59, 293015450755792896), (60, 576742227280134144), (61, 1153202979583557632)] mixed (by kernel_rfl) rfl rfl) | (refine W.condA (ht := fun hb => ?_) (hf := fun hb => ?_) <;> (try simp at hb) <;> (try (exfalso; first | exact hs hb | omega))))
                all_goals first
                  | (refine ⟨i + 1, ⟨by omega, fun i' hi' hs' => ?_⟩, ?_, by omega⟩
                     · by_cases e : i' = i
                       · subst e; exact fun q => hs ⟨q, hlt.2 hs'⟩
                       · exact q2 i' (by omega) hs'
                     · exact Le.auto)
                  | trace_state
            · obtain rfl : i = l.length := by omega
              repeat' (first | ((first | apply U_ | (apply Ug_; exact rfl; exact rfl) | (apply Ugq_; exact rfl; exact rfl) | apply Lex.u | (apply Lex.g; exact rfl; exact rfl) | (apply Lex.gq; exact rfl; exact rfl)); (first | exact QX.B TYok | exact QX.Len TYok | exact QX.Idx TYok); exact rfl) | refine SC ?_ | (apply S_isnil TYok; exact rfl; exact rfl; exact rfl; exact Ev.auto; intro bn hnil) | refine SG ?_ | (apply W.draw2 (id := 14) [0, 0, 3, 7, 15, 0, 63, 127, 255, 255, 1023, 2047, 255, 255, 12543, 28927, 61695, 127231, 262143, 524287, 1048575] [[0], [8], [41, 42], [43], [44], [7], [45, 46], [47], [1, 48], [8, 48], [49, 50, 48], [51, 48], [0, 48], [8, 48], [53, 54, 48], [55, 48], [56, 48], [57, 48], [52, 58, 48], [59, 48], [48, 60]] 21 [(41, 1), (42, 256), (43, 6597069766656), (44, 8796093022208), (45, 17592186044416), (46, 128), (47, 105553116266496), (48, 140737488355328), (49, 281474976710658), (50, 281474976710912), (51, 1970324836974592), (52, 2533274790395904), (53, 281474976710657), (54, 281474976710912), (55, 27303072740933632), (56, 36310271995674624), (57, 72339069014638592), (58, 144396663052566528), (59, 293015450755792896), (60, 576742227280134144), (61, 1153202979583557632)] mixed (by kernel_rfl) rfl rfl) | (refine W.condA (ht := fun hb => ?_) (hf := fun hb => ?_) <;> (try simp at hb) <;> (try (exfalso; omega))))
              all_goals first
                | (refine ⟨k + 1, ?_, ?_, by omega⟩
                   · rcases hex with h | ⟨i, h1, h2, h3⟩
                     · omega
                     · have := q2 i h1 h2
                       omega
                   · exact Le.auto)
                | trace_state
        · have e : m = 10 := by omega
          rw [if_pos e, decide_eq_false (by omega)]
          repeat' (first | ((first | apply U_ | (apply Ug_; exact rfl; exact rfl) | (apply Ugq_; exact rfl; exact rfl) | apply Lex.u | (apply Lex.g; exact rfl; exact rfl) | (apply Lex.gq; exact rfl; exact rfl)); (first | exact QX.B TYok | exact QX.Len TYok | exact QX.Idx TYok); exact rfl) | refine SC ?_ | (apply S_isnil TYok; exact rfl; exact rfl; exact rfl; exact Ev.auto; intro bn hnil) | refine SG ?_ | (apply W.draw2 (id := 14) [0, 0, 3, 7, 15, 0, 63, 127, 255, 255, 1023, 2047, 255, 255, 12543, 28927, 61695, 127231, 262143, 524287, 1048575] [[0], [8], [41, 42], [43], [44], [7], [45, 46], [47], [1, 48], [8, 48], [49, 50, 48], [51, 48], [0, 48], [8, 48], [53, 54, 48], [55, 48], [56, 48], [57, 48], [52, 58, 48], [59, 48], [48, 60]] 21 [(41, 1), (42, 256), (43, 6597069766656), (44, 8796093022208), (45, 17592186044416), (46, 128), (47, 105553116266496), (48, 140737488355328), (49, 281474976710658), (50, 281474976710912), (51, 1970324836974592), (52, 2533274790395904), (53, 281474976710657), (54, 281474976710912), (55, 27303072740933632), (56, 36310271995674624), (57, 72339069014638592), (58, 144396663052566528), (59, 293015450755792896), (60, 576742227280134144), (61, 1153202979583557632)] mixed (by kernel_rfl) rfl rfl) | (refine W.condA (ht := fun hb => ?_) (hf := fun hb => ?_) <;> (try simp at hb) <;> (try (exfalso; omega))))
          all_goals exact Fin.ret ResL.auto
end
end Go.Proofs.Ytndfnihglpconaa
