/-
  Part 11 of what the proof rests on.
-/
import Derived.Test.YtndfnihglpconaaFS09
import Derived.Test.YtndfnihglpconaaFS02
import Derived.Test.YtndfnihglpconaaFS07
import Derived.Test.YtndfnihglpconaaFS10
import Derived.Test.YtndfnihglpconaaFS05
section
set_option linter.unusedVariables false
set_option linter.unusedSimpArgs false
set_option maxHeartbeats 8000000
namespace Go.Proofs.Ytndfnihglpconaa
open Lf Go
attribute [local irreducible] PureOp EffOp Ev RG W Then InBlock Lf.Fin nth App InitE Pick EvL EvD EvP EvR ResL Lf.Lex SubR SubBR FinO FinM ResM ResD FinS val pw digs trimL
section
open RankLaw
structure Fq where
  s : Int
  d : List Int
  s' : Int
  d' : List Int
instance : Inhabited Fq := ⟨⟨0, [], 0, []⟩⟩
abbrev encF (q : Fq) : List Cell := [.int .i64 q.s, .sl (q.d.map Lf.encI), .int .i64 q.s', .sl (q.d'.map Lf.encI)]
def lst (l : List Cl) (R : List Rat) : Nat → Int
  | 0 => 10
  | j + 1 => if nth R j < ((nth l j).amt : Rat) then (if (nth l j).rank ≤ lst l R j then (nth l j).rank else lst l R j) else lst l R j
theorem lst_le (l : List Cl) (R : List Rat) : ∀ j, lst l R j ≤ 10
  | 0 => Int.le_refl _
  | j + 1 => by
    have := lst_le l R j
    rw [lst]
    repeat' split
    all_goals omega
theorem lst_of (l : List Cl) (R : List Rat) : ∀ j i, i < j → nth R i < ((nth l i).amt : Rat) → lst l R j ≤ (nth l i).rank
  | 0, i, h, _ => by omega
  | j + 1, i, h, hs => by
    rw [lst]
    by_cases e : i = j
    · subst e
      rw [if_pos hs]
      split <;> omega
    · have := lst_of l R j i (by omega) hs
      repeat' split
      all_goals omega
theorem lst_ex (l : List Cl) (R : List Rat) : ∀ j, lst l R j = 10 ∨ ∃ i, i < j ∧ nth R i < ((nth l i).amt : Rat) ∧ (nth l i).rank = lst l R j
  | 0 => .inl rfl
  | j + 1 => by
    rw [lst]
    by_cases h1 : nth R j < ((nth l j).amt : Rat)
    · rw [if_pos h1]
      by_cases h2 : (nth l j).rank ≤ lst l R j
      · rw [if_pos h2]
        exact .inr ⟨j, by omega, h1, rfl⟩
      · rw [if_neg h2]
        rcases lst_ex l R j with h | ⟨i, h3, h4⟩
        · exact .inl h
        · exact .inr ⟨i, by omega, h4⟩
    · rw [if_neg h1]
      rcases lst_ex l R j with h | ⟨i, h3, h4⟩
      · exact .inl h
      · exact .inr ⟨i, by omega, h4⟩
attribute [local irreducible] sgn mag gcdZ quoZ remZ fullZ fullE
theorem cmpR_lt (a b : Rat) : (cmpR a b < 0) ↔ a < b := by
  rcases cmpR_cases a b with h | h | h
  · exact ⟨fun _ => h.2, fun _ => by omega⟩
  · exact ⟨fun _ => by omega, fun k => by have := h.2; grind⟩
  · exact ⟨fun _ => by omega, fun k => by have := h.2; grind⟩
theorem pshort_ok (l : List Cl) (R : List Rat) (hc : rightC l = true) (hR : R.length = l.length) (ho : ∀ r ∈ R, okF r) : ACalls Try.prog 11 [slC l, slQ R] (.tup [cI (if lst l R l.length = 10 then 0 else lst l R l.length), cB (decide (lst l R l.length ≠ 10))]) := by
  obtain ⟨hok, ha, hl⟩ := rightC_yes hc
  have p1 := pright_ok l (by omega)
  rw [hc] at p1
  refine ACalls.of_W (qs := [cI (if lst l R l.length = 10 then 0 else lst l R l.length), cB (decide (lst l R l.length ≠ 10))]) [4, 5] 49 Try.func11 (by kernel_rfl) rfl rfl rfl fun G => ?_
  refine W.initA (hw := ?_)
  repeat' (first | ((first | apply U_ | (apply Ug_; exact rfl; exact rfl) | (apply Ugq_; exact rfl; exact rfl) | apply Lex.u | (apply Lex.g; exact rfl; exact rfl) | (apply Lex.gq; exact rfl; exact rfl)); (first | exact QX.B TYok | exact QX.Num TYok | exact QX.Len TYok | exact QX.Idx TYok | exact QCd (p1)); exact rfl) | refine SX.Alloc TYok (h := ?_) | refine SX.Store TYok (h := ?_) | refine SC ?_ | (apply S_isnil TYok; exact rfl; exact rfl; exact rfl; exact Ev.auto; intro bn hnil) | refine SG ?_ | (apply W.draw2 (id := 9) [0, 0, 3, 7, 0, 16, 48, 127, 255] [[1], [7], [32, 33], [34], [8], [36], [37], [35, 38], [39]] 9 [(32, 2), (33, 128), (34, 12884901888), (35, 17179869184), (36, 256), (37, 68719476736), (38, 137438953472), (39, 309237645312), (40, 549755813888)] mixed (by kernel_rfl) rfl rfl) | (refine W.condA (ht := fun hb => ?_) (hf := fun hb => ?_) <;> (try simp at hb) <;> (try (exfalso; omega))))
  apply W.loopP (σ := Nat) 49 [1, 19, 20] (fun z => z ≤ l.length) (fun z => [(21, vI z), (6, vI (lst l R z))]) (fun _ => []) (fun z => l.length - z) (0)
  case hp => repeat (first | exact Pick.nil | apply Pick.cons rfl)
  case h0 =>
    refine ⟨by omega, ?_⟩
    exact Le.auto
  case round =>
    rintro j g1
    apply W.norm (by repeat (first | exact App.nil | apply App.cons))
    by_cases hj : j < l.length
    · have c := amt_nth ha hj
      have or := ho _ (nth_mem (l := R) (show j < R.length by omega))
      have r1 := fright_yes (nth R j) or
      have w1 := whole_ok (nth l j).amt (by unfold i64B; omega)
      have f1 := fcmp_ok (nth R j) ((nth l j).amt : Rat) or (okF_int (by unfold i64B; omega))
      have hlt := cmpR_lt (nth R j) ((nth l j).amt : Rat)
      have e1 : lst l R (j + 1) = if cmpR (nth R j) ((nth l j).amt : Rat) < 0 then min (lst l R j) (nth l j).rank else lst l R j := by
        rw [lst]
        by_cases h : nth R j < ((nth l j).amt : Rat)
        · rw [if_pos h, if_pos (hlt.2 h)]; split <;> omega
        · rw [if_neg h, if_neg fun k => h (hlt.1 k)]
      clear hlt
      generalize lst l R j = m at *
      generalize cmpR (nth R j) ((nth l j).amt : Rat) = C at *
      repeat' (first | ((first | apply U_ | (apply Ug_; exact rfl; exact rfl) | (apply Ugq_; exact rfl; exact rfl) | apply Lex.u | (apply Lex.g; exact rfl; exact rfl) | (apply Lex.gq; exact rfl; exact rfl)); (first | exact QX.B TYok | exact QX.Num TYok | exact QX.Len TYok | exact QX.Idx TYok | exact QCd (r1) | exact QCd (w1) | exact QCd (f1)); exact rfl) | refine SX.Alloc TYok (h := ?_) | refine SX.Store TYok (h := ?_) | refine SC ?_ | (apply S_isnil TYok; exact rfl; exact rfl; exact rfl; exact Ev.auto; intro bn hnil) | refine SG ?_ | (apply W.draw2 (id := 9) [0, 0, 3, 7, 0, 16, 48, 127, 255] [[1], [7], [32, 33], [34], [8], [36], [37], [35, 38], [39]] 9 [(32, 2), (33, 128), (34, 12884901888), (35, 17179869184), (36, 256), (37, 68719476736), (38, 137438953472), (39, 309237645312), (40, 549755813888)] mixed (by kernel_rfl) rfl rfl) | (refine W.condA (ht := fun hb => ?_) (hf := fun hb => ?_) <;> (try simp at hb) <;> (try (exfalso; omega))))
      all_goals first
        | (refine ⟨j + 1, by omega, ?_, by omega⟩; (try dsimp only); rw [e1, if_neg (by omega)]; exact Le.auto)
        | (refine ⟨j + 1, by omega, ?_, by omega⟩; (try dsimp only); rw [e1, if_pos (by omega)]; exact Le.auto)
        | trace_state
    · obtain rfl : j = l.length := by omega
      have hle := lst_le l R l.length
      generalize lst l R l.length = m at *
      by_cases h10 : m = 10
      · subst h10
        rw [if_pos rfl, decide_eq_false (by simp)]
        repeat' (first | ((first | apply U_ | (apply Ug_; exact rfl; exact rfl) | (apply Ugq_; exact rfl; exact rfl) | apply Lex.u | (apply Lex.g; exact rfl; exact rfl) | (apply Lex.gq; exact rfl; exact rfl)); (first | exact QX.B TYok | exact QX.Num TYok | exact QX.Len TYok | exact QX.Idx TYok); exact rfl) | refine SX.Alloc TYok (h := ?_) | refine SX.Store TYok (h := ?_) | refine SC ?_ | (apply S_isnil TYok; exact rfl; exact rfl; exact rfl; exact Ev.auto; intro bn hnil) | refine SG ?_ | (apply W.draw2 (id := 9) [0, 0, 3, 7, 0, 16, 48, 127, 255] [[1], [7], [32, 33], [34], [8], [36], [37], [35, 38], [39]] 9 [(32, 2), (33, 128), (34, 12884901888), (35, 17179869184), (36, 256), (37, 68719476736), (38, 137438953472), (39, 309237645312), (40, 549755813888)] mixed (by kernel_rfl) rfl rfl) | (refine W.condA (ht := fun hb => ?_) (hf := fun hb => ?_) <;> (try simp at hb) <;> (try (exfalso; omega))))
        all_goals exact Fin.ret ResL.auto
      · rw [if_neg h10, decide_eq_true h10]
        repeat' (first | ((first | apply U_ | (apply Ug_; exact rfl; exact rfl) | (apply Ugq_; exact rfl; exact rfl) | apply Lex.u | (apply Lex.g; exact rfl; exact rfl) | (apply Lex.gq; exact rfl; exact rfl)); (first | exact QX.B TYok | exact QX.Num TYok | exact QX.Len TYok | exact QX.Idx TYok); exact rfl) | refine SX.Alloc TYok (h := ?_) | refine SX.Store TYok (h := ?_) | refine SC ?_ | (apply S_isnil TYok; exact rfl; exact rfl; exact rfl; exact Ev.auto; intro bn hnil) | refine SG ?_ | (apply W.draw2 (id := 9) [0, 0, 3, 7, 0, 16, 48, 127, 255] [[1], [7], [32, 33], [34], [8], [36], [37], [35, 38], [39]] 9 [(32, 2), (33, 128), (34, 12884901888), (35, 17179869184), (36, 256), (37, 68719476736), (38, 137438953472), (39, 309237645312), (40, 549755813888)] mixed (by kernel_rfl) rfl rfl) | (refine W.condA (ht := fun hb => ?_) (hf := fun hb => ?_) <;> (try simp at hb) <;> (try (exfalso; omega))))
        all_goals exact Fin.ret ResL.auto
theorem sumR_snoc (l : List Rat) (x : Rat) : sumR (l ++ [x]) = sumR l + x := by
  induction l with
  | nil => simp only [List.nil_append, sumR]; grind
  | cons y l ih => rw [List.cons_append, sumR, sumR, ih]; grind
theorem least_ex {p : Nat → Prop} : ∀ n, p n → ∃ j, p j ∧ ∀ i, i < j → ¬ p i := by
  intro n
  induction n using Nat.strongRecOn with
  | ind n ih =>
    intro h
    by_cases k : ∃ i, i < n ∧ p i
    · obtain ⟨i, h1, h2⟩ := k
      exact ih i h1 h2
    · exact ⟨n, h, fun i hi hp => k ⟨i, hi, hp⟩⟩
theorem addOk_okF {a b : Rat} (h : addOk a b) : okF (a + b) := by
  rw [rat_add]
  exact okF_of h.1.2.2 h.2 (mul_ne (den_ne a) (den_ne b))
theorem sum_walk (R : List Rat) (ho : ∀ r ∈ R, okF r) (hR : R.length ≤ 9223372036854775807) (n : Nat) (hn : n ≤ R.length) (hu : ∀ j, j < n → addOk (sumR (R.take j)) (nth R j)) (b : Bool) (hb : (b = true ∧ n = R.length) ∨ (b = false ∧ n < R.length ∧ ¬ addOk (sumR (R.take n)) (nth R n))) :
    ACalls Try.prog 16 [slQ R] (.tup [zF (sumR (R.take n)), cB b]) ∧ okF (sumR (R.take n)) := by
  have e0 : ∀ j, j < R.length → sumR (R.take (j + 1)) = sumR (R.take j) + nth R j := fun j hj => by rw [take_nth hj, sumR_snoc]
  have z0 : sumR (R.take 0) = ((0 : Int) : Rat) := by rw [List.take_zero]; rfl
  have okj : ∀ j, j ≤ n → okF (sumR (R.take j)) := fun j => by
    induction j with
    | zero => intro _; rw [z0]; exact okF_int (by unfold i64B; omega)
    | succ j ih =>
      intro h
      rw [e0 j (by omega)]
      exact addOk_okF (hu j (by omega))
  refine ⟨?_, okj n (Nat.le_refl _)⟩
  have w0 := qwhole_ok 0 (by unfold i64B; omega)
  rw [← z0] at w0
  refine ACalls.of_M TYok (qs := [zF (sumR (R.take n)), cB b]) [.cell 2 26, .tmp 3] 29 Try.func16 (by kernel_rfl) rfl rfl rfl fun G => ?_
  refine W.initA (hw := ?_)
  repeat' (first | ((first | apply U_); (first | exact QX.B TYok | exact QX.Len TYok | exact QX.Idx TYok | exact QX.Ext TYok | exact QCd (w0)); exact rfl) | refine SX.Alloc TYok (h := ?_) | refine SX.Store TYok (h := ?_) | refine SC ?_ | (refine W.drawA (id := 5) (L := [false, false, false, false, false, false, false, false, false, false, false, false]) mixed rfl ?_) | exact RAll.nil | (refine RAll.cons rfl ?_ ?_) | (refine RA.step (L := [false, false, false, false, false, false, false, false, false, false, false, false]) (i := 0) (is := [1, 2, 9]) (by kernel_rfl) ?_) | (refine RA.step (L := [false, false, false, false, false, false, false, false, false, true, false, false]) (i := 0) (is := [1, 2]) (by kernel_rfl) ?_) | (refine RA.step (L := [false, false, true, false, false, false, false, false, false, true, false, false]) (i := 0) (is := [1]) (by kernel_rfl) ?_) | (refine RA.step (L := [false, true, true, false, false, false, false, false, false, true, false, false]) (i := 0) (is := [3]) (by kernel_rfl) ?_) | (refine RA.step (L := [false, true, true, true, false, false, false, false, false, true, false, false]) (i := 0) (is := [4]) (by kernel_rfl) ?_) | (refine RA.step (L := [false, true, true, true, true, false, false, false, false, true, false, false]) (i := 0) (is := []) (by kernel_rfl) ?_) | (refine RA.step (L := [true, true, true, true, true, false, false, false, false, true, false, false]) (i := 5) (is := []) (by kernel_rfl) ?_) | (refine RA.step (L := [true, true, true, true, true, true, false, false, false, true, false, false]) (i := 6) (is := []) (by kernel_rfl) ?_) | (refine RA.step (L := [true, true, true, true, true, true, true, false, false, true, false, false]) (i := 7) (is := [8]) (by kernel_rfl) ?_) | (refine RA.step (L := [true, true, true, true, true, true, true, false, true, true, false, false]) (i := 7) (is := []) (by kernel_rfl) ?_) | (refine RA.step (L := [true, true, true, true, true, true, true, true, true, true, false, false]) (i := 10) (is := []) (by kernel_rfl) ?_) | (refine RA.step (L := [true, true, true, true, true, true, true, true, true, true, true, false]) (i := 11) (is := []) (by kernel_rfl) ?_) | (refine RA.done (L := [true, true, true, true, true, true, true, true, true, true, true, true]) (by kernel_rfl) ?_) | (refine RA.step (L := [true, true, true, true, true, true, true, true, false, true, false, false]) (i := 8) (is := [10]) (by kernel_rfl) ?_) | (refine RA.step (L := [true, true, true, true, true, true, true, true, false, true, true, false]) (i := 8) (is := []) (by kernel_rfl) ?_) | (refine RA.step (L := [true, true, true, true, false, false, false, false, false, true, false, false]) (i := 4) (is := []) (by kernel_rfl) ?_) | (refine RA.step (L := [true, true, true, false, false, false, false, false, false, true, false, false]) (i := 3) (is := []) (by kernel_rfl) ?_) | (refine RA.step (L := [true, false, true, false, false, false, false, false, false, true, false, false]) (i := 1) (is := []) (by kernel_rfl) ?_) | (refine RA.step (L := [false, true, false, false, false, false, false, false, false, true, false, false]) (i := 0) (is := [2]) (by kernel_rfl) ?_) | (refine RA.step (L := [true, true, false, false, false, false, false, false, false, true, false, false]) (i := 2) (is := []) (by kernel_rfl) ?_) | (refine RA.step (L := [true, false, false, false, false, false, false, false, false, true, false, false]) (i := 1) (is := [2]) (by kernel_rfl) ?_) | (refine RA.step (L := [false, false, true, false, false, false, false, false, false, false, false, false]) (i := 0) (is := [1, 9]) (by kernel_rfl) ?_) | (refine RA.step (L := [false, true, true, false, false, false, false, false, false, false, false, false]) (i := 0) (is := [3, 9]) (by kernel_rfl) ?_) | (refine RA.step (L := [false, true, true, true, false, false, false, false, false, false, false, false]) (i := 0) (is := [4, 9]) (by kernel_rfl) ?_) | (refine RA.step (L := [false, true, true, true, true, false, false, false, false, false, false, false]) (i := 0) (is := [9]) (by kernel_rfl) ?_) | (refine RA.step (L := [true, true, true, true, true, false, false, false, false, false, false, false]) (i := 5) (is := [9]) (by kernel_rfl) ?_) | (refine RA.step (L := [true, true, true, true, true, true, false, false, false, false, false, false]) (i := 6) (is := [9]) (by kernel_rfl) ?_) | (refine RA.step (L := [true, true, true, true, true, true, true, false, false, false, false, false]) (i := 7) (is := [8, 9]) (by kernel_rfl) ?_) | (refine RA.step (L := [true, true, true, true, true, true, true, false, true, false, false, false]) (i := 7) (is := [9]) (by kernel_rfl) ?_) | (refine RA.step (L := [true, true, true, true, true, true, true, true, true, false, false, false]) (i := 9) (is := []) (by kernel_rfl) ?_) | (refine RA.step (L := [true, true, true, true, true, true, true, true, false, false, false, false]) (i := 8) (is := [9]) (by kernel_rfl) ?_) | (refine RA.step (L := [true, true, true, true, false, false, false, false, false, false, false, false]) (i := 4) (is := [9]) (by kernel_rfl) ?_) | (refine RA.step (L := [true, true, true, false, false, false, false, false, false, false, false, false]) (i := 3) (is := [9]) (by kernel_rfl) ?_) | (refine RA.step (L := [true, false, true, false, false, false, false, false, false, false, false, false]) (i := 1) (is := [9]) (by kernel_rfl) ?_) | (refine RA.step (L := [false, true, false, false, false, false, false, false, false, false, false, false]) (i := 0) (is := [2, 9]) (by kernel_rfl) ?_) | (refine RA.step (L := [true, true, false, false, false, false, false, false, false, false, false, false]) (i := 2) (is := [9]) (by kernel_rfl) ?_) | (refine RA.step (L := [true, false, false, false, false, false, false, false, false, false, false, false]) (i := 1) (is := [2, 9]) (by kernel_rfl) ?_) | (refine W.condA (ht := fun hb => ?_) (hf := fun hb => ?_) <;> (try simp at hb) <;> (try (exfalso; omega))))
  apply W.loopP (σ := Nat) 29 [0, 2, 4] (fun j => j ≤ n) (fun j => [(5, vI j)]) (fun j => [(2, ⟨26, 4, [[.int .i64 0, .slnil, .int .i64 0, .slnil]]⟩), (4, ⟨26, 4, [encQ (sumR (R.take j))]⟩)]) (fun j => n - j) (0)
  case hp => repeat (first | exact Pick.nil | apply Pick.cons rfl)
  case h0 =>
    refine ⟨by omega, ?_⟩
    exact Le.auto
  case round =>
    rintro j gj
    apply W.norm (by repeat (first | exact App.nil | apply App.cons))
    by_cases hj : j < n
    · have hx := hu j hj
      have or := ho _ (nth_mem (l := R) (show j < R.length by omega))
      have a1 := qadd_yes _ (nth R j) (okj j gj) or hx
      rw [← e0 j (by omega)] at a1
      generalize sumR (R.take j) = A at *
      generalize hB : sumR (R.take (j + 1)) = B at *
      repeat' (first | ((first | apply U_); (first | exact QX.B TYok | exact QX.Len TYok | exact QX.Idx TYok | exact QX.Ext TYok | exact QCd (a1)); exact rfl) | refine SX.Alloc TYok (h := ?_) | refine SX.Store TYok (h := ?_) | refine SC ?_ | apply LexS.nil | (apply LexS.f; exact rfl; (first | (apply FreshV.alloc TYok; exact rfl; exact rfl; exact rfl; exact rfl) | (apply FreshV.lit TYok; (repeat (first | exact EvR.nil | apply EvR.cons Ev.auto)); exact rfl; exact rfl; exact rfl; exact rfl; exact rfl; exact rfl; exact rfl; exact rfl; exact rfl) | (apply FreshV.box; exact Ev.auto; exact rfl; exact rfl; exact rfl)); exact rfl; exact rfl; exact rfl) | (apply LexS.s; exact rfl; exact rfl; (apply StoreV.mk TYok; exact Ev.auto; exact Ev.auto; exact rfl; exact rfl; exact rfl; exact rfl; exact rfl)) | ((first | apply LexS.u | (apply LexS.g; exact rfl; exact rfl) | (apply LexS.gq; exact rfl; exact rfl)); (repeat (first | (apply NB.cons; exact rfl) | exact NB.nil rfl)); (first | exact QX.B TYok | exact QX.Len TYok | exact QX.Idx TYok | exact QX.Ext TYok | exact QCd (a1)); exact rfl; exact rfl; exact rfl) | (refine W.drawS (id := 5) [0, 0, 0, 6, 14, 31, 63, 127, 127, 0, 767, 2047] [[4], [0], [5], [17, 18], [19], [16, 20], [21], [15], [15], [], [6, 22], [23]] [(10, (6, ?_)), (9, (6, ?_))] [(10, 6), (9, 6)] mixed (by kernel_rfl) rfl ?_; rotate_left 2) | (refine W.condA (ht := fun hb => ?_) (hf := fun hb => ?_) <;> (try simp at hb) <;> (try (exfalso; omega))))
      all_goals first
        | (refine ⟨j + 1, by omega, ?_, by omega⟩; (try dsimp only); rw [hB]; exact Le.auto)
        | trace_state
    · obtain rfl : j = n := by omega
      rcases hb with ⟨rfl, h2⟩ | ⟨rfl, h2, h3⟩
      · repeat' (first | ((first | apply U_); (first | exact QX.B TYok | exact QX.Len TYok | exact QX.Idx TYok | exact QX.Ext TYok); exact rfl) | refine SX.Alloc TYok (h := ?_) | refine SX.Store TYok (h := ?_) | refine SC ?_ | (refine W.drawA (id := 5) (L := [false, false, false, false, false, false, false, false, false, false, false, false]) mixed rfl ?_) | exact RAll.nil | (refine RAll.cons rfl ?_ ?_) | (refine RA.step (L := [false, false, false, false, false, false, false, false, false, false, false, false]) (i := 0) (is := [1, 2, 9]) (by kernel_rfl) ?_) | (refine RA.step (L := [false, false, false, false, false, false, false, false, false, true, false, false]) (i := 0) (is := [1, 2]) (by kernel_rfl) ?_) | (refine RA.step (L := [false, false, true, false, false, false, false, false, false, true, false, false]) (i := 0) (is := [1]) (by kernel_rfl) ?_) | (refine RA.step (L := [false, true, true, false, false, false, false, false, false, true, false, false]) (i := 0) (is := [3]) (by kernel_rfl) ?_) | (refine RA.step (L := [false, true, true, true, false, false, false, false, false, true, false, false]) (i := 0) (is := [4]) (by kernel_rfl) ?_) | (refine RA.step (L := [false, true, true, true, true, false, false, false, false, true, false, false]) (i := 0) (is := []) (by kernel_rfl) ?_) | (refine RA.step (L := [true, true, true, true, true, false, false, false, false, true, false, false]) (i := 5) (is := []) (by kernel_rfl) ?_) | (refine RA.step (L := [true, true, true, true, true, true, false, false, false, true, false, false]) (i := 6) (is := []) (by kernel_rfl) ?_) | (refine RA.step (L := [true, true, true, true, true, true, true, false, false, true, false, false]) (i := 7) (is := [8]) (by kernel_rfl) ?_) | (refine RA.step (L := [true, true, true, true, true, true, true, false, true, true, false, false]) (i := 7) (is := []) (by kernel_rfl) ?_) | (refine RA.step (L := [true, true, true, true, true, true, true, true, true, true, false, false]) (i := 10) (is := []) (by kernel_rfl) ?_) | (refine RA.step (L := [true, true, true, true, true, true, true, true, true, true, true, false]) (i := 11) (is := []) (by kernel_rfl) ?_) | (refine RA.done (L := [true, true, true, true, true, true, true, true, true, true, true, true]) (by kernel_rfl) ?_) | (refine RA.step (L := [true, true, true, true, true, true, true, true, false, true, false, false]) (i := 8) (is := [10]) (by kernel_rfl) ?_) | (refine RA.step (L := [true, true, true, true, true, true, true, true, false, true, true, false]) (i := 8) (is := []) (by kernel_rfl) ?_) | (refine RA.step (L := [true, true, true, true, false, false, false, false, false, true, false, false]) (i := 4) (is := []) (by kernel_rfl) ?_) | (refine RA.step (L := [true, true, true, false, false, false, false, false, false, true, false, false]) (i := 3) (is := []) (by kernel_rfl) ?_) | (refine RA.step (L := [true, false, true, false, false, false, false, false, false, true, false, false]) (i := 1) (is := []) (by kernel_rfl) ?_) | (refine RA.step (L := [false, true, false, false, false, false, false, false, false, true, false, false]) (i := 0) (is := [2]) (by kernel_rfl) ?_) | (refine RA.step (L := [true, true, false, false, false, false, false, false, false, true, false, false]) (i := 2) (is := []) (by kernel_rfl) ?_) | (refine RA.step (L := [true, false, false, false, false, false, false, false, false, true, false, false]) (i := 1) (is := [2]) (by kernel_rfl) ?_) | (refine RA.step (L := [false, false, true, false, false, false, false, false, false, false, false, false]) (i := 0) (is := [1, 9]) (by kernel_rfl) ?_) | (refine RA.step (L := [false, true, true, false, false, false, false, false, false, false, false, false]) (i := 0) (is := [3, 9]) (by kernel_rfl) ?_) | (refine RA.step (L := [false, true, true, true, false, false, false, false, false, false, false, false]) (i := 0) (is := [4, 9]) (by kernel_rfl) ?_) | (refine RA.step (L := [false, true, true, true, true, false, false, false, false, false, false, false]) (i := 0) (is := [9]) (by kernel_rfl) ?_) | (refine RA.step (L := [true, true, true, true, true, false, false, false, false, false, false, false]) (i := 5) (is := [9]) (by kernel_rfl) ?_) | (refine RA.step (L := [true, true, true, true, true, true, false, false, false, false, false, false]) (i := 6) (is := [9]) (by kernel_rfl) ?_) | (refine RA.step (L := [true, true, true, true, true, true, true, false, false, false, false, false]) (i := 7) (is := [8, 9]) (by kernel_rfl) ?_) | (refine RA.step (L := [true, true, true, true, true, true, true, false, true, false, false, false]) (i := 7) (is := [9]) (by kernel_rfl) ?_) | (refine RA.step (L := [true, true, true, true, true, true, true, true, true, false, false, false]) (i := 9) (is := []) (by kernel_rfl) ?_) | (refine RA.step (L := [true, true, true, true, true, true, true, true, false, false, false, false]) (i := 8) (is := [9]) (by kernel_rfl) ?_) | (refine RA.step (L := [true, true, true, true, false, false, false, false, false, false, false, false]) (i := 4) (is := [9]) (by kernel_rfl) ?_) | (refine RA.step (L := [true, true, true, false, false, false, false, false, false, false, false, false]) (i := 3) (is := [9]) (by kernel_rfl) ?_) | (refine RA.step (L := [true, false, true, false, false, false, false, false, false, false, false, false]) (i := 1) (is := [9]) (by kernel_rfl) ?_) | (refine RA.step (L := [false, true, false, false, false, false, false, false, false, false, false, false]) (i := 0) (is := [2, 9]) (by kernel_rfl) ?_) | (refine RA.step (L := [true, true, false, false, false, false, false, false, false, false, false, false]) (i := 2) (is := [9]) (by kernel_rfl) ?_) | (refine RA.step (L := [true, false, false, false, false, false, false, false, false, false, false, false]) (i := 1) (is := [2, 9]) (by kernel_rfl) ?_) | (refine W.condA (ht := fun hb => ?_) (hf := fun hb => ?_) <;> (try simp at hb) <;> (try (exfalso; omega))))
        all_goals first
          | exact FinM.ret ResM.auto
          | trace_state
      · have or := ho _ (nth_mem (l := R) (show j < R.length by omega))
        have a1 := qadd_no _ (nth R j) (okj j gj) or h3
        generalize sumR (R.take j) = A at *
        repeat' (first | ((first | apply U_); (first | exact QX.B TYok | exact QX.Len TYok | exact QX.Idx TYok | exact QX.Ext TYok | (apply Q_calld a1; exact EvD.auto)); exact rfl) | refine SX.Alloc TYok (h := ?_) | refine SX.Store TYok (h := ?_) | refine SC ?_ | apply LexS.nil | (apply LexS.f; exact rfl; (first | (apply FreshV.alloc TYok; exact rfl; exact rfl; exact rfl; exact rfl) | (apply FreshV.lit TYok; (repeat (first | exact EvR.nil | apply EvR.cons Ev.auto)); exact rfl; exact rfl; exact rfl; exact rfl; exact rfl; exact rfl; exact rfl; exact rfl; exact rfl) | (apply FreshV.box; exact Ev.auto; exact rfl; exact rfl; exact rfl)); exact rfl; exact rfl; exact rfl) | (apply LexS.s; exact rfl; exact rfl; (apply StoreV.mk TYok; exact Ev.auto; exact Ev.auto; exact rfl; exact rfl; exact rfl; exact rfl; exact rfl)) | ((first | apply LexS.u | (apply LexS.g; exact rfl; exact rfl) | (apply LexS.gq; exact rfl; exact rfl)); (repeat (first | (apply NB.cons; exact rfl) | exact NB.nil rfl)); (first | exact QX.B TYok | exact QX.Len TYok | exact QX.Idx TYok | exact QX.Ext TYok | (apply Q_calld a1; exact EvD.auto)); exact rfl; exact rfl; exact rfl) | (refine W.drawS (id := 5) [0, 0, 0, 6, 14, 31, 63, 127, 127, 0, 767, 2047] [[4], [0], [5], [17, 18], [19], [16, 20], [21], [15], [15], [], [6, 22], [23]] [(10, (6, ?_)), (9, (6, ?_))] [(10, 6), (9, 6)] mixed (by kernel_rfl) rfl ?_; rotate_left 2) | (refine W.condA (ht := fun hb => ?_) (hf := fun hb => ?_) <;> (try simp at hb) <;> (try (exfalso; omega))))
        all_goals first
          | exact FinM.ret ResM.auto
          | trace_state
theorem sum_ok (R : List Rat) (ho : ∀ r ∈ R, okF r) (hR : R.length ≤ 9223372036854775807) : ∃ v b, ACalls Try.prog 16 [slQ R] (.tup [zF v, cB b]) ∧ okF v ∧ (b = true → v = sumR R) := by
  by_cases h : ∃ j, j < R.length ∧ ¬ addOk (sumR (R.take j)) (nth R j)
  · obtain ⟨j, hj⟩ := h
    obtain ⟨n, ⟨h1, h2⟩, h3⟩ := least_ex (p := fun j => j < R.length ∧ ¬ addOk (sumR (R.take j)) (nth R j)) j hj
    have := sum_walk R ho hR n (by omega) (fun j hj => by
      by_cases k : addOk (sumR (R.take j)) (nth R j)
      · exact k
      · exact absurd ⟨by omega, k⟩ (h3 j hj)) false (.inr ⟨rfl, h1, h2⟩)
    exact ⟨_, _, this.1, this.2, fun h => by cases h⟩
  · have := sum_walk R ho hR R.length (by omega) (fun j hj => by
      by_cases k : addOk (sumR (R.take j)) (nth R j)
      · exact k
      · exact absurd ⟨j, hj, k⟩ h) true (.inl ⟨rfl, rfl⟩)
    rw [List.take_length] at this
    exact ⟨_, _, this.1, this.2, fun _ => rfl⟩
end
end Go.Proofs.Ytndfnihglpconaa
end
section
set_option linter.unusedVariables false
set_option linter.unusedSimpArgs false
set_option maxHeartbeats 8000000
namespace Go.Proofs.Ytndfnihglpconaa
open Lf Go
attribute [local irreducible] PureOp EffOp Ev RG W Then InBlock Lf.Fin nth App InitE Pick EvL EvD EvP EvR ResL Lf.Lex SubR SubBR FinO FinM ResM ResD FinS val pw digs trimL
section
open RankLaw
attribute [local irreducible] sgn mag gcdZ quoZ remZ fullZ fullE
theorem cmpR_lt' (a b : Rat) : (cmpR a b < 0) ↔ a < b := by
  rcases cmpR_cases a b with h | h | h
  · exact ⟨fun _ => h.2, fun _ => by omega⟩
  · exact ⟨fun _ => by omega, fun k => by have := h.2; grind⟩
  · exact ⟨fun _ => by omega, fun k => by have := h.2; grind⟩
theorem split_neg (r : Rat) (l : List Cl) (hr : okF r) (h0 : r < 0) (hl : l.length ≤ 9223372036854775807) : ACalls Try.prog 9 [zF r, slC l] (.tup [slQ [], cI 1]) := by
  have w0 := whole_ok 0 (by unfold i64B; omega)
  have r1 := fright_yes r hr
  have p1 := pright_ok l hl
  have c1 := fcmp_ok r ((0 : Int) : Rat) hr (okF_int (by unfold i64B; omega))
  have hc := (cmpR_lt' r ((0 : Int) : Rat)).2 (by grind)
  generalize cmpR r ((0 : Int) : Rat) = c at *
  generalize rightC l = b2 at *
  refine ACalls.of_W (qs := [slQ [], cI 1]) [4, 5] 118 Try.func9 (by kernel_rfl) rfl rfl rfl fun G => ?_
  refine W.initA (hw := ?_)
  repeat' (first | ((first | apply U_ | (apply Ug_; exact rfl; exact rfl) | (apply Ugq_; exact rfl; exact rfl) | apply Lex.u | (apply Lex.g; exact rfl; exact rfl) | (apply Lex.gq; exact rfl; exact rfl)); (first | exact QX.B TYok | exact QX.Len TYok | exact QX.Idx TYok | exact QX.Ext TYok | exact QCd (r1) | exact QCd (w0) | exact QCd (c1) | exact QCd (p1)); exact rfl) | refine SX.Alloc TYok (h := ?_) | refine SX.Store TYok (h := ?_) | refine SX.Make TYok (h := ?_) | refine SX.Box TYok (h := ?_) | refine SC ?_ | (apply S_isnil TYok; exact rfl; exact rfl; exact rfl; exact Ev.auto; intro bn hnil) | refine SG ?_ | (apply W.draw2 (id := 1) [0, 1, 3, 7, 15, 15, 63, 127, 255, 511, 1023, 2047, 4095, 8191] [[2], [19], [20], [21], [2, 22], [22], [23, 24, 22], [25, 22], [22, 26], [27], [1, 28], [29, 28], [30, 28], [28, 31]] 14 [(19, 4), (20, 524288), (21, 1048576), (22, 2097152), (23, 4194308), (24, 4194304), (25, 29360128), (26, 37748736), (27, 71303168), (28, 134217728), (29, 268435458), (30, 805306368), (31, 1342177280), (32, 2415919104)] mixed (by kernel_rfl) rfl rfl) | (apply W.draw2 (id := 15) [0, 0, 2, 7, 15, 31] [[7], [9], [56], [55, 57], [58], [59]] 6 [(55, 128), (56, 512), (57, 72057594037927936), (58, 180143985094819840), (59, 288230376151711744), (12, 576460752303423488)] mixed (by kernel_rfl) rfl rfl) | (refine W.drawA (id := 22) (L := [false, false, false, false, false, false, false, false, false, false, false]) mixed rfl ?_) | exact RAll.nil | (refine RAll.cons rfl ?_ ?_) | (refine RA.step (L := [false, false, false, false, false, false, false, false, false, false, false]) (i := 0) (is := [3, 8]) (by kernel_rfl) ?_) | (refine RA.step (L := [false, false, false, false, false, false, false, false, true, false, false]) (i := 0) (is := [3]) (by kernel_rfl) ?_) | (refine RA.step (L := [false, false, false, true, false, false, false, false, true, false, false]) (i := 0) (is := []) (by kernel_rfl) ?_) | (refine RA.step (L := [true, false, false, true, false, false, false, false, true, false, false]) (i := 1) (is := []) (by kernel_rfl) ?_) | (refine RA.step (L := [true, true, false, true, false, false, false, false, true, false, false]) (i := 2) (is := []) (by kernel_rfl) ?_) | (refine RA.step (L := [true, true, true, true, false, false, false, false, true, false, false]) (i := 4) (is := []) (by kernel_rfl) ?_) | (refine RA.step (L := [true, true, true, true, true, false, false, false, true, false, false]) (i := 5) (is := []) (by kernel_rfl) ?_) | (refine RA.step (L := [true, true, true, true, true, true, false, false, true, false, false]) (i := 6) (is := [7]) (by kernel_rfl) ?_) | (refine RA.step (L := [true, true, true, true, true, true, false, true, true, false, false]) (i := 6) (is := []) (by kernel_rfl) ?_) | (refine RA.step (L := [true, true, true, true, true, true, true, true, true, false, false]) (i := 9) (is := []) (by kernel_rfl) ?_) | (refine RA.step (L := [true, true, true, true, true, true, true, true, true, true, false]) (i := 10) (is := []) (by kernel_rfl) ?_) | (refine RA.done (L := [true, true, true, true, true, true, true, true, true, true, true]) (by kernel_rfl) ?_) | (refine RA.step (L := [true, true, true, true, true, true, true, false, true, false, false]) (i := 7) (is := [9]) (by kernel_rfl) ?_) | (refine RA.step (L := [true, true, true, true, true, true, true, false, true, true, false]) (i := 7) (is := []) (by kernel_rfl) ?_) | (refine RA.step (L := [true, false, false, false, false, false, false, false, true, false, false]) (i := 1) (is := [3]) (by kernel_rfl) ?_) | (refine RA.step (L := [true, true, false, false, false, false, false, false, true, false, false]) (i := 2) (is := [3]) (by kernel_rfl) ?_) | (refine RA.step (L := [true, true, true, false, false, false, false, false, true, false, false]) (i := 3) (is := []) (by kernel_rfl) ?_) | (refine RA.step (L := [false, false, false, true, false, false, false, false, false, false, false]) (i := 0) (is := [8]) (by kernel_rfl) ?_) | (refine RA.step (L := [true, false, false, true, false, false, false, false, false, false, false]) (i := 1) (is := [8]) (by kernel_rfl) ?_) | (refine RA.step (L := [true, true, false, true, false, false, false, false, false, false, false]) (i := 2) (is := [8]) (by kernel_rfl) ?_) | (refine RA.step (L := [true, true, true, true, false, false, false, false, false, false, false]) (i := 4) (is := [8]) (by kernel_rfl) ?_) | (refine RA.step (L := [true, true, true, true, true, false, false, false, false, false, false]) (i := 5) (is := [8]) (by kernel_rfl) ?_) | (refine RA.step (L := [true, true, true, true, true, true, false, false, false, false, false]) (i := 6) (is := [7, 8]) (by kernel_rfl) ?_) | (refine RA.step (L := [true, true, true, true, true, true, false, true, false, false, false]) (i := 6) (is := [8]) (by kernel_rfl) ?_) | (refine RA.step (L := [true, true, true, true, true, true, true, true, false, false, false]) (i := 8) (is := []) (by kernel_rfl) ?_) | (refine RA.step (L := [true, true, true, true, true, true, true, false, false, false, false]) (i := 7) (is := [8]) (by kernel_rfl) ?_) | (refine RA.step (L := [true, false, false, false, false, false, false, false, false, false, false]) (i := 1) (is := [3, 8]) (by kernel_rfl) ?_) | (refine RA.step (L := [true, true, false, false, false, false, false, false, false, false, false]) (i := 2) (is := [3, 8]) (by kernel_rfl) ?_) | (refine RA.step (L := [true, true, true, false, false, false, false, false, false, false, false]) (i := 3) (is := [8]) (by kernel_rfl) ?_) | (refine W.drawA (id := 24) (L := [false, false, false, false, false, false, false, false, false, false, false, false]) mixed rfl ?_) | exact RAll.nil | (refine RAll.cons rfl ?_ ?_) | (refine RA.step (L := [false, false, false, false, false, false, false, false, false, false, false, false]) (i := 0) (is := [1, 2, 3]) (by kernel_rfl) ?_) | (refine RA.step (L := [false, false, false, true, false, false, false, false, false, false, false, false]) (i := 0) (is := [1, 2, 4]) (by kernel_rfl) ?_) | (refine RA.step (L := [false, false, false, true, true, false, false, false, false, false, false, false]) (i := 0) (is := [1, 2]) (by kernel_rfl) ?_) | (refine RA.step (L := [false, false, true, true, true, false, false, false, false, false, false, false]) (i := 0) (is := [1, 5]) (by kernel_rfl) ?_) | (refine RA.step (L := [false, false, true, true, true, true, false, false, false, false, false, false]) (i := 0) (is := [1, 6]) (by kernel_rfl) ?_) | (refine RA.step (L := [false, false, true, true, true, true, true, false, false, false, false, false]) (i := 0) (is := [1, 7, 8]) (by kernel_rfl) ?_) | (refine RA.step (L := [false, false, true, true, true, true, true, false, true, false, false, false]) (i := 0) (is := [1, 7]) (by kernel_rfl) ?_) | (refine RA.step (L := [false, false, true, true, true, true, true, true, true, false, false, false]) (i := 0) (is := [1]) (by kernel_rfl) ?_) | (refine RA.step (L := [false, true, true, true, true, true, true, true, true, false, false, false]) (i := 0) (is := []) (by kernel_rfl) ?_) | (refine RA.step (L := [true, true, true, true, true, true, true, true, true, false, false, false]) (i := 9) (is := []) (by kernel_rfl) ?_) | (refine RA.step (L := [true, true, true, true, true, true, true, true, true, true, false, false]) (i := 10) (is := []) (by kernel_rfl) ?_) | (refine RA.step (L := [true, true, true, true, true, true, true, true, true, true, true, false]) (i := 11) (is := []) (by kernel_rfl) ?_) | (refine RA.done (L := [true, true, true, true, true, true, true, true, true, true, true, true]) (by kernel_rfl) ?_) | (refine RA.step (L := [true, false, true, true, true, true, true, true, true, false, false, false]) (i := 1) (is := []) (by kernel_rfl) ?_) | (refine RA.step (L := [false, true, true, true, true, true, true, false, true, false, false, false]) (i := 0) (is := [7]) (by kernel_rfl) ?_) | (refine RA.step (L := [true, true, true, true, true, true, true, false, true, false, false, false]) (i := 7) (is := []) (by kernel_rfl) ?_) | (refine RA.step (L := [true, false, true, true, true, true, true, false, true, false, false, false]) (i := 1) (is := [7]) (by kernel_rfl) ?_) | (refine RA.step (L := [false, false, true, true, true, true, true, true, false, false, false, false]) (i := 0) (is := [1, 8]) (by kernel_rfl) ?_) | (refine RA.step (L := [false, true, true, true, true, true, true, true, false, false, false, false]) (i := 0) (is := [8]) (by kernel_rfl) ?_) | (refine RA.step (L := [true, true, true, true, true, true, true, true, false, false, false, false]) (i := 8) (is := [9]) (by kernel_rfl) ?_) | (refine RA.step (L := [true, true, true, true, true, true, true, true, false, true, false, false]) (i := 8) (is := [10]) (by kernel_rfl) ?_) | (refine RA.step (L := [true, true, true, true, true, true, true, true, false, true, true, false]) (i := 8) (is := []) (by kernel_rfl) ?_) | (refine RA.step (L := [true, false, true, true, true, true, true, true, false, false, false, false]) (i := 1) (is := [8]) (by kernel_rfl) ?_) | (refine RA.step (L := [false, true, true, true, true, true, true, false, false, false, false, false]) (i := 0) (is := [7, 8]) (by kernel_rfl) ?_) | (refine RA.step (L := [true, true, true, true, true, true, true, false, false, false, false, false]) (i := 7) (is := [8]) (by kernel_rfl) ?_) | (refine RA.step (L := [true, false, true, true, true, true, true, false, false, false, false, false]) (i := 1) (is := [7, 8]) (by kernel_rfl) ?_) | (refine RA.step (L := [false, true, true, true, true, true, false, false, false, false, false, false]) (i := 0) (is := [6]) (by kernel_rfl) ?_) | (refine RA.step (L := [true, true, true, true, true, true, false, false, false, false, false, false]) (i := 6) (is := []) (by kernel_rfl) ?_) | (refine RA.step (L := [true, false, true, true, true, true, false, false, false, false, false, false]) (i := 1) (is := [6]) (by kernel_rfl) ?_) | (refine RA.step (L := [false, true, true, true, true, false, false, false, false, false, false, false]) (i := 0) (is := [5]) (by kernel_rfl) ?_) | (refine RA.step (L := [true, true, true, true, true, false, false, false, false, false, false, false]) (i := 5) (is := []) (by kernel_rfl) ?_) | (refine RA.step (L := [true, false, true, true, true, false, false, false, false, false, false, false]) (i := 1) (is := [5]) (by kernel_rfl) ?_) | (refine RA.step (L := [false, true, false, true, true, false, false, false, false, false, false, false]) (i := 0) (is := [2]) (by kernel_rfl) ?_) | (refine RA.step (L := [true, true, false, true, true, false, false, false, false, false, false, false]) (i := 2) (is := []) (by kernel_rfl) ?_) | (refine RA.step (L := [true, false, false, true, true, false, false, false, false, false, false, false]) (i := 1) (is := [2]) (by kernel_rfl) ?_) | (refine RA.step (L := [false, false, true, true, false, false, false, false, false, false, false, false]) (i := 0) (is := [1, 4]) (by kernel_rfl) ?_) | (refine RA.step (L := [false, true, true, true, false, false, false, false, false, false, false, false]) (i := 0) (is := [4]) (by kernel_rfl) ?_) | (refine RA.step (L := [true, true, true, true, false, false, false, false, false, false, false, false]) (i := 4) (is := []) (by kernel_rfl) ?_) | (refine RA.step (L := [true, false, true, true, false, false, false, false, false, false, false, false]) (i := 1) (is := [4]) (by kernel_rfl) ?_) | (refine RA.step (L := [false, true, false, true, false, false, false, false, false, false, false, false]) (i := 0) (is := [2, 4]) (by kernel_rfl) ?_) | (refine RA.step (L := [true, true, false, true, false, false, false, false, false, false, false, false]) (i := 2) (is := [4]) (by kernel_rfl) ?_) | (refine RA.step (L := [true, false, false, true, false, false, false, false, false, false, false, false]) (i := 1) (is := [2, 4]) (by kernel_rfl) ?_) | (refine RA.step (L := [false, false, true, false, false, false, false, false, false, false, false, false]) (i := 0) (is := [1, 3]) (by kernel_rfl) ?_) | (refine RA.step (L := [false, true, true, false, false, false, false, false, false, false, false, false]) (i := 0) (is := [3]) (by kernel_rfl) ?_) | (refine RA.step (L := [true, true, true, false, false, false, false, false, false, false, false, false]) (i := 3) (is := []) (by kernel_rfl) ?_) | (refine RA.step (L := [true, false, true, false, false, false, false, false, false, false, false, false]) (i := 1) (is := [3]) (by kernel_rfl) ?_) | (refine RA.step (L := [false, true, false, false, false, false, false, false, false, false, false, false]) (i := 0) (is := [2, 3]) (by kernel_rfl) ?_) | (refine RA.step (L := [true, true, false, false, false, false, false, false, false, false, false, false]) (i := 2) (is := [3]) (by kernel_rfl) ?_) | (refine RA.step (L := [true, false, false, false, false, false, false, false, false, false, false, false]) (i := 1) (is := [2, 3]) (by kernel_rfl) ?_) | (refine W.drawA (id := 30) (L := [false, false, false, false, false, false, false, false, false, false]) mixed rfl ?_) | exact RAll.nil | (refine RAll.cons rfl ?_ ?_) | (refine RA.step (L := [false, false, false, false, false, false, false, false, false, false]) (i := 0) (is := [1, 7]) (by kernel_rfl) ?_) | (refine RA.step (L := [false, false, false, false, false, false, false, true, false, false]) (i := 0) (is := [1]) (by kernel_rfl) ?_) | (refine RA.step (L := [false, true, false, false, false, false, false, true, false, false]) (i := 0) (is := [2]) (by kernel_rfl) ?_) | (refine RA.step (L := [false, true, true, false, false, false, false, true, false, false]) (i := 0) (is := []) (by kernel_rfl) ?_) | (refine RA.step (L := [true, true, true, false, false, false, false, true, false, false]) (i := 3) (is := []) (by kernel_rfl) ?_) | (refine RA.step (L := [true, true, true, true, false, false, false, true, false, false]) (i := 4) (is := []) (by kernel_rfl) ?_) | (refine RA.step (L := [true, true, true, true, true, false, false, true, false, false]) (i := 5) (is := [6]) (by kernel_rfl) ?_) | (refine RA.step (L := [true, true, true, true, true, false, true, true, false, false]) (i := 5) (is := []) (by kernel_rfl) ?_) | (refine RA.step (L := [true, true, true, true, true, true, true, true, false, false]) (i := 8) (is := []) (by kernel_rfl) ?_) | (refine RA.step (L := [true, true, true, true, true, true, true, true, true, false]) (i := 9) (is := []) (by kernel_rfl) ?_) | (refine RA.done (L := [true, true, true, true, true, true, true, true, true, true]) (by kernel_rfl) ?_) | (refine RA.step (L := [true, true, true, true, true, true, false, true, false, false]) (i := 6) (is := [8]) (by kernel_rfl) ?_) | (refine RA.step (L := [true, true, true, true, true, true, false, true, true, false]) (i := 6) (is := []) (by kernel_rfl) ?_) | (refine RA.step (L := [true, true, false, false, false, false, false, true, false, false]) (i := 2) (is := []) (by kernel_rfl) ?_) | (refine RA.step (L := [true, false, false, false, false, false, false, true, false, false]) (i := 1) (is := []) (by kernel_rfl) ?_) | (refine RA.step (L := [false, true, false, false, false, false, false, false, false, false]) (i := 0) (is := [2, 7]) (by kernel_rfl) ?_) | (refine RA.step (L := [false, true, true, false, false, false, false, false, false, false]) (i := 0) (is := [7]) (by kernel_rfl) ?_) | (refine RA.step (L := [true, true, true, false, false, false, false, false, false, false]) (i := 3) (is := [7]) (by kernel_rfl) ?_) | (refine RA.step (L := [true, true, true, true, false, false, false, false, false, false]) (i := 4) (is := [7]) (by kernel_rfl) ?_) | (refine RA.step (L := [true, true, true, true, true, false, false, false, false, false]) (i := 5) (is := [6, 7]) (by kernel_rfl) ?_) | (refine RA.step (L := [true, true, true, true, true, false, true, false, false, false]) (i := 5) (is := [7]) (by kernel_rfl) ?_) | (refine RA.step (L := [true, true, true, true, true, true, true, false, false, false]) (i := 7) (is := []) (by kernel_rfl) ?_) | (refine RA.step (L := [true, true, true, true, true, true, false, false, false, false]) (i := 6) (is := [7]) (by kernel_rfl) ?_) | (refine RA.step (L := [true, true, false, false, false, false, false, false, false, false]) (i := 2) (is := [7]) (by kernel_rfl) ?_) | (refine RA.step (L := [true, false, false, false, false, false, false, false, false, false]) (i := 1) (is := [7]) (by kernel_rfl) ?_) | (refine W.condA (ht := fun hb => ?_) (hf := fun hb => ?_) <;> (try simp at hb) <;> (try (exfalso; omega))))
  all_goals first
    | exact Fin.ret ResL.auto
    | (exfalso; omega)
    | trace_state
end
end Go.Proofs.Ytndfnihglpconaa
end
section
set_option linter.unusedVariables false
set_option linter.unusedSimpArgs false
set_option maxHeartbeats 8000000
namespace Go.Proofs.Ytndfnihglpconaa
open Lf Go
attribute [local irreducible] PureOp EffOp Ev RG W Then InBlock Lf.Fin nth App InitE Pick EvL EvD EvP EvR ResL Lf.Lex SubR SubBR FinO FinM ResM ResD FinS val pw digs trimL
section
open RankLaw
def smp : List Cl := [⟨0, -1, 0, 30⟩, ⟨0, -1, 0, 60⟩, ⟨0, -1, 1, 10⟩]
theorem smp_right : rightC smp = true := by decide +kernel
theorem smp_pay : payL (Rat.divInt 45 1) smp = [Rat.divInt 15 1, Rat.divInt 30 1, Rat.divInt 0 1] ∧ payL (Rat.divInt 95 1) smp = [Rat.divInt 30 1, Rat.divInt 60 1, Rat.divInt 5 1] ∧ payL (Rat.divInt 200 1) smp = [Rat.divInt 30 1, Rat.divInt 60 1, Rat.divInt 10 1] ∧ payL (Rat.divInt 1 2) smp = [Rat.divInt 1 6, Rat.divInt 1 3, Rat.divInt 0 1] := by decide +kernel
theorem smp_lst : lst smp [Rat.divInt 15 1, Rat.divInt 30 1, Rat.divInt 0 1] 3 = 0 ∧ lst smp [Rat.divInt 30 1, Rat.divInt 60 1, Rat.divInt 5 1] 3 = 1 ∧ lst smp [Rat.divInt 30 1, Rat.divInt 60 1, Rat.divInt 10 1] 3 = 10 := by decide +kernel
theorem payC_bd {r : Rat} (hr : bd r 20) {l : List Cl} (h : amtOk l) (hl : l.length ≤ 2000) {c : Cl} (hc : c ∈ l) : bd (payC r l c) 33 := by
  have sk := sums_rng h hl c.rank
  have ca := h c hc
  have oA := int_bd (n := less l c.rank) (by omega)
  have oS := int_bd (n := same l c.rank) (by omega)
  have oC := int_bd (n := c.amt) (by omega)
  unfold payC pay
  split
  · exact bd_mono (int_bd (n := 0) (by omega)) (by omega)
  · split
    · exact bd_mono oC (by omega)
    · rename_i h1 h2
      have sb := sub_bd (k := 24) (by omega) hr oA (by omega)
      have m2 := mul_bd (k := 29) (by omega) oC sb.1 (by omega)
      have hS0 : ((same l c.rank : Int) : Rat).num ≠ 0 := fun h => by
        have e : same l c.rank = 0 := h
        rw [e] at h2
        rw [Int.add_zero] at h2
        grind
      exact (div_bd (k := 33) (by omega) m2.1 oS hS0 (by omega)).1
theorem payL_ok {r : Rat} (hr : bd r 20) {l : List Cl} (h : amtOk l) (hl : l.length ≤ 2000) : ∀ x ∈ payL r l, okF x := fun x hx => by
  rw [payL_eq] at hx
  obtain ⟨c, hc, rfl⟩ := List.mem_map.1 hx
  exact bd_ok (payC_bd hr h hl hc) (by omega)
theorem payL_len (r : Rat) (l : List Cl) : (payL r l).length = l.length := by simp [payL]
theorem payL_nth (r : Rat) {l : List Cl} {i : Nat} (hi : i < l.length) : nth (payL r l) i = payC r l (nth l i) := by
  rw [nth_eq (by rw [payL_len]; exact hi), nth_eq hi]
  simp only [payL_eq, List.getElem_map]
attribute [local irreducible] sgn mag gcdZ quoZ remZ fullZ fullE
theorem of_ok (n m : Int) (h : i64B n) (hm : i64B m) (h0 : m ≠ 0) : ACalls Try.prog 19 [cI n, cI m] (.pv (zF (Rat.divInt n m))) := by
  have n1 := qOf_ok n m h hm h0
  generalize Rat.divInt n m = r at *
  refine ACalls.of_M TYok (qs := [zF r]) [.cell 4 26] 8 Try.func19 (by kernel_rfl) rfl rfl rfl fun G => ?_
  refine W.initA (hw := ?_)
  repeat' (first | ((first | apply U_); (first | exact QX.B TYok | exact QCd (n1)); exact rfl) | refine SX.Alloc TYok (h := ?_) | refine SX.Store TYok (h := ?_) | refine SC ?_ | (refine W.condA (ht := fun hb => ?_) (hf := fun hb => ?_) <;> (try simp at hb) <;> (try (exfalso; omega))))
  all_goals exact FinM.ret ResM.auto
theorem ofw_ok (n : Int) (h : i64B n) : ACalls Try.prog 19 [cI n, cI 1] (.pv (zF (n : Rat))) := by
  rw [← divInt_one]
  exact of_ok n 1 h (by unfold i64B; omega) (by omega)
theorem sample_ok : ACalls Try.prog 24 [] (.pv (slC smp)) := by
  refine ACalls.of_W (qs := [slC smp]) [0] 5 Try.func24 (by kernel_rfl) rfl rfl rfl fun G => ?_
  refine W.initA (hw := ?_)
  repeat' (first | ((first | apply U_); (first | (apply Q_litD TYok; (repeat (first | exact EvR.nil | apply EvR.cons Ev.auto)); exact rfl; exact rfl; exact rfl; exact rfl; exact rfl; exact rfl) | exact QX.B TYok | exact QX.Build TYok); exact rfl) | refine SX.Lit TYok (h := ?_) | refine SC ?_ | (refine W.condA (ht := fun hb => ?_) (hf := fun hb => ?_) <;> (try simp at hb) <;> (try (exfalso; omega))))
  all_goals first
    | exact Fin.ret ResL.auto
    | trace_state
theorem least_ok (a b : Rat) (ha : okF a) (hb : okF b) : ACalls Try.prog 18 [zF a, zF b] (.pv (zF (minR a b))) := by
  have k1 := qcmp_ok a b ha hb
  have hc := cmpR_cases a b
  by_cases h : a ≤ b
  · rw [show minR a b = a from if_pos h]
    have hle : cmpR a b ≤ 0 := by
      rcases hc with q | q | q
      · omega
      · omega
      · exact absurd q.2 (by grind)
    generalize cmpR a b = c at *
    refine ACalls.of_M TYok (qs := [zF a]) [.cell 4 26] 11 Try.func18 (by kernel_rfl) rfl rfl rfl fun G => ?_
    refine W.initA (hw := ?_)
    repeat' (first | ((first | apply U_); (first | exact QX.B TYok | exact QCd (k1)); exact rfl) | refine SX.Alloc TYok (h := ?_) | refine SX.Store TYok (h := ?_) | refine SX.Box TYok (h := ?_) | refine SC ?_ | (refine W.condA (ht := fun hb => ?_) (hf := fun hb => ?_) <;> (try simp at hb) <;> (try (exfalso; omega))))
    all_goals exact FinM.ret ResM.auto
  · rw [show minR a b = b from if_neg h]
    have hle : ¬ cmpR a b ≤ 0 := by
      rcases hc with q | q | q
      · exact absurd q.2 (by grind)
      · exact absurd q.2 (by grind)
      · omega
    generalize cmpR a b = c at *
    refine ACalls.of_M TYok (qs := [zF b]) [.cell 4 26] 11 Try.func18 (by kernel_rfl) rfl rfl rfl fun G => ?_
    refine W.initA (hw := ?_)
    repeat' (first | ((first | apply U_); (first | exact QX.B TYok | exact QCd (k1)); exact rfl) | refine SX.Alloc TYok (h := ?_) | refine SX.Store TYok (h := ?_) | refine SX.Box TYok (h := ?_) | refine SC ?_ | (refine W.condA (ht := fun hb => ?_) (hf := fun hb => ?_) <;> (try simp at hb) <;> (try (exfalso; omega))))
    all_goals exact FinM.ret ResM.auto
theorem same_refl (L : List Rat) (h : ∀ r ∈ L, okF r) (hl : L.length ≤ 1000000) : ACalls Try.prog 13 [slQ L, slQ L] (.pv (cB true)) := by
  have := sameQ_ok L L h h hl hl
  rwa [decide_eq_true rfl] at this
theorem okF3 {p q : Int} (hp : i64B p) (hq : i64B q) (h : q ≠ 0) : okF (Rat.divInt p q) := okF_of (i64_ok hp) (i64_ok hq) h
theorem bdc {p q : Int} (hp : -1208925819614629174706176 < p ∧ p < 1208925819614629174706176) (hq : -1208925819614629174706176 < q ∧ q < 1208925819614629174706176) (h : q ≠ 0) : bd (Rat.divInt p q) 20 := by
  have e := pw4
  exact bd_mono (bd_div (n := 4) h (by omega) (by omega)) (by omega)
theorem small_ok : ACalls Try.prog 7 [] (.pv (cB true)) := by
  have s0 := sample_ok
  obtain ⟨e1, e2, e3, e4⟩ := smp_pay
  obtain ⟨l1, l2, l3⟩ := smp_lst
  have ix : ∀ n : Int, (-1000 ≤ n ∧ n ≤ 1000) → i64B n := fun n h => by unfold i64B; omega
  have o1 := of_ok 45 1 (ix _ (by omega)) (ix _ (by omega)) (by omega)
  have o2 := of_ok 95 1 (ix _ (by omega)) (ix _ (by omega)) (by omega)
  have o3 := of_ok 200 1 (ix _ (by omega)) (ix _ (by omega)) (by omega)
  have o4 := of_ok 1 2 (ix _ (by omega)) (ix _ (by omega)) (by omega)
  have o5 := of_ok 15 1 (ix _ (by omega)) (ix _ (by omega)) (by omega)
  have o6 := of_ok 30 1 (ix _ (by omega)) (ix _ (by omega)) (by omega)
  have o7 := of_ok 0 1 (ix _ (by omega)) (ix _ (by omega)) (by omega)
  have o8 := of_ok 60 1 (ix _ (by omega)) (ix _ (by omega)) (by omega)
  have o9 := of_ok 5 1 (ix _ (by omega)) (ix _ (by omega)) (by omega)
  have o10 := of_ok 10 1 (ix _ (by omega)) (ix _ (by omega)) (by omega)
  have o11 := of_ok 1 6 (ix _ (by omega)) (ix _ (by omega)) (by omega)
  have o12 := of_ok 1 3 (ix _ (by omega)) (ix _ (by omega)) (by omega)
  have nn : ∀ {p q : Int}, 0 ≤ p → 0 < q → (0 : Rat) ≤ Rat.divInt p q := fun {p q} hp hq => Rat.divInt_nonneg hp (by omega)
  have p1 := split_ok _ smp (bdc (p := 45) (q := 1) (by omega) (by omega) (by omega)) (nn (by omega) (by omega)) smp_right
  have p2 := split_ok _ smp (bdc (p := 95) (q := 1) (by omega) (by omega) (by omega)) (nn (by omega) (by omega)) smp_right
  have p3 := split_ok _ smp (bdc (p := 200) (q := 1) (by omega) (by omega) (by omega)) (nn (by omega) (by omega)) smp_right
  have p4 := split_ok _ smp (bdc (p := 1) (q := 2) (by omega) (by omega) (by omega)) (nn (by omega) (by omega)) smp_right
  rw [e1] at p1
  rw [e2] at p2
  rw [e3] at p3
  rw [e4] at p4
  have k5 := okF3 (p := 15) (q := 1) (ix _ (by omega)) (ix _ (by omega)) (by omega)
  have k6 := okF3 (p := 30) (q := 1) (ix _ (by omega)) (ix _ (by omega)) (by omega)
  have k7 := okF3 (p := 0) (q := 1) (ix _ (by omega)) (ix _ (by omega)) (by omega)
  have k8 := okF3 (p := 60) (q := 1) (ix _ (by omega)) (ix _ (by omega)) (by omega)
  have k9 := okF3 (p := 5) (q := 1) (ix _ (by omega)) (ix _ (by omega)) (by omega)
  have k10 := okF3 (p := 10) (q := 1) (ix _ (by omega)) (ix _ (by omega)) (by omega)
  have k11 := okF3 (p := 1) (q := 6) (ix _ (by omega)) (ix _ (by omega)) (by omega)
  have k12 := okF3 (p := 1) (q := 3) (ix _ (by omega)) (ix _ (by omega)) (by omega)
  have t3 : ∀ {a b c : Rat}, okF a → okF b → okF c → ∀ r ∈ [a, b, c], okF r := fun {a b c} h1 h2 h3 r hr => by
    rcases List.mem_cons.1 hr with rfl | hr
    · exact h1
    rcases List.mem_cons.1 hr with rfl | hr
    · exact h2
    rcases List.mem_cons.1 hr with rfl | hr
    · exact h3
    · cases hr
  have h1 := pshort_ok smp _ smp_right rfl (t3 k5 k6 k7)
  have h2 := pshort_ok smp _ smp_right rfl (t3 k6 k8 k9)
  have h3 := pshort_ok smp _ smp_right rfl (t3 k6 k8 k10)
  rw [show smp.length = 3 from rfl, l1] at h1
  rw [show smp.length = 3 from rfl, l2] at h2
  rw [show smp.length = 3 from rfl, l3] at h3
  replace h1 : ACalls Try.prog 11 [slC smp, slQ _] (.tup [cI 0, cB true]) := h1
  replace h2 : ACalls Try.prog 11 [slC smp, slQ _] (.tup [cI 1, cB true]) := h2
  replace h3 : ACalls Try.prog 11 [slC smp, slQ _] (.tup [cI 0, cB false]) := h3
  have s1 := same_refl _ (t3 k5 k6 k7) (by decide)
  have s2 := same_refl _ (t3 k6 k8 k9) (by decide)
  have s3 := same_refl _ (t3 k6 k8 k10) (by decide)
  have s4 := same_refl _ (t3 k11 k12 k7) (by decide)
  clear k5 k6 k7 k8 k9 k10 k11 k12 t3 nn ix l1 l2 l3 e1 e2 e3 e4
  generalize Rat.divInt 45 1 = r1 at *
  generalize Rat.divInt 95 1 = r2 at *
  generalize Rat.divInt 200 1 = r3 at *
  generalize Rat.divInt 1 2 = r4 at *
  generalize Rat.divInt 15 1 = r5 at *
  generalize Rat.divInt 30 1 = r6 at *
  generalize Rat.divInt 0 1 = r7 at *
  generalize Rat.divInt 60 1 = r8 at *
  generalize Rat.divInt 5 1 = r9 at *
  generalize Rat.divInt 10 1 = r10 at *
  generalize Rat.divInt 1 6 = r11 at *
  generalize Rat.divInt 1 3 = r12 at *
  generalize smp = S at *
  refine ACalls.of_W (qs := [cB true]) [0] 125 Try.func7 (by kernel_rfl) rfl rfl rfl fun G => ?_
  refine W.initA (hw := ?_)
  repeat' (first | ((first | apply U_ | (apply Ug_; exact rfl; exact rfl) | (apply Ugq_; exact rfl; exact rfl)); (first | (apply Q_litD TYok; (repeat (first | exact EvR.nil | apply EvR.cons Ev.auto)); exact rfl; exact rfl; exact rfl; exact rfl; exact rfl; exact rfl) | exact QX.B TYok | exact QX.Ext TYok | exact QCd (s0) | exact QCd (o1) | exact QCd (o2) | exact QCd (o3) | exact QCd (o4) | exact QCd (o5) | exact QCd (o6) | exact QCd (o7) | exact QCd (o8) | exact QCd (o9) | exact QCd (o10) | exact QCd (o11) | exact QCd (o12) | exact QCd (p1) | exact QCd (p2) | exact QCd (p3) | exact QCd (p4) | exact QCd (h1) | exact QCd (h2) | exact QCd (h3) | exact QCd (s1) | exact QCd (s2) | exact QCd (s3) | exact QCd (s4)); exact rfl) | refine SX.Lit TYok (h := ?_) | refine SC ?_ | (apply S_isnil TYok; exact rfl; exact rfl; exact rfl; exact Ev.auto; intro bn hnil) | refine SG ?_ | (refine W.condA (ht := fun hb => ?_) (hf := fun hb => ?_) <;> (try simp at hb) <;> (try (exfalso; omega))))
  all_goals first
    | exact Fin.ret ResL.auto
    | trace_state
end
end Go.Proofs.Ytndfnihglpconaa
end
section
set_option linter.unusedVariables false
set_option linter.unusedSimpArgs false
set_option maxHeartbeats 8000000
namespace Go.Proofs.Ytndfnihglpconaa
open Lf Go
attribute [local irreducible] PureOp EffOp Ev RG W Then InBlock Lf.Fin nth App InitE Pick EvL EvD EvP EvR ResL Lf.Lex SubR SubBR FinO FinM ResM ResD FinS val pw digs trimL
section
open RankLaw
attribute [local irreducible] sgn mag gcdZ quoZ remZ fullZ fullE
/-- what is checked of the ranks, for one claim -/
theorem rank_law {r : Rat} {l : List Cl} (hok : ∀ c ∈ l, okC c) {i : Nat} (hi : i < l.length) (m : Int) (hm : m = lst l (payL r l) l.length) (fi : Int) (hf : fi = if m = 10 then 0 else m) :
    ((m ≠ 10 ∧ (((nth l i).rank < fi ∧ ¬ payC r l (nth l i) = ((nth l i).amt : Rat)) ∨ (fi < (nth l i).rank ∧ ¬ sgn (payC r l (nth l i)).num = 0))) ∨ (m = 10 ∧ ¬ payC r l (nth l i) = ((nth l i).amt : Rat))) → False := by
  have c := hok _ (nth_mem hi)
  have hlt := lst_of l (payL r l) l.length i hi
  rw [← hm, payL_nth r hi] at hlt
  have hfull : ¬ payC r l (nth l i) < ((nth l i).amt : Rat) → payC r l (nth l i) = ((nth l i).amt : Rat) := fun h => full_of c.2.2 h
  rintro (⟨h1, h2⟩ | ⟨h1, h2⟩)
  · rw [if_neg h1] at hf
    subst hf
    rcases h2 with ⟨h3, h4⟩ | ⟨h3, h4⟩
    · exact h4 (hfull fun q => by have := hlt q; omega)
    · rcases lst_ex l (payL r l) l.length with e | ⟨j, hj, hs, hr⟩
      · omega
      · rw [payL_nth r hj] at hs
        rw [← hm] at hr
        have := short_none hok (nth_mem hj) (d := nth l i) hs (by omega)
        refine h4 ?_
        have e : payC r l (nth l i) = 0 := this
        rw [e]; exact sgn0
  · exact h2 (hfull fun q => by have := hlt q; have := c.2.1; omega)
theorem minR_ok {a b : Rat} (ha : okF a) (hb : okF b) : okF (minR a b) := by
  unfold minR
  split
  · exact ha
  · exact hb
theorem fair_ok (q : Fq) (l : List Cl) (hd : q.d.length ≤ 9223372036854775807 ∧ q.d'.length ≤ 9223372036854775807) (hl : l.length ≤ 9223372036854775807) : ACalls Try.prog 4 [fB q.s q.d q.s' q.d', slC l] (.pv (cB true)) := by
  have h0 := small_ok
  have f1 := rfew_ok q.s q.d q.s' q.d' l hd.1 hd.2 hl
  have p1 := rrightC_ok l hl
  have r1 := qright_ok q.s q.d q.s' q.d' hd.1 hd.2
  by_cases hw : ((((l.length : Int) ≤ 20 ∧ (q.d.length : Int) ≤ 20) ∧ (q.d'.length : Int) ≤ 20) ∧ rightC l = true) ∧ rightFB q.s q.d q.s' q.d' = true
  case neg =>
    generalize hb1 : ((decide ((l.length : Int) ≤ 20) && decide ((q.d.length : Int) ≤ 20)) && decide ((q.d'.length : Int) ≤ 20)) = b1 at *
    have hbad : (b1 = true ∧ rightC l = true) ∧ rightFB q.s q.d q.s' q.d' = true → False := fun ⟨⟨q1, q2⟩, q3⟩ => hw ⟨⟨by
      rw [← hb1] at q1
      simpa only [Bool.and_eq_true, decide_eq_true_iff] using q1, q2⟩, q3⟩
    generalize rightC l = b2 at *
    generalize rightFB q.s q.d q.s' q.d' = b3 at *
    refine ACalls.of_W (qs := [cB true]) [4] 241 Try.func4 (by kernel_rfl) rfl rfl rfl fun G => ?_
    refine W.initA (hw := ?_)
    repeat' (first | ((first | apply U_ | (apply Ug_; exact rfl; exact rfl) | (apply Ugq_; exact rfl; exact rfl) | apply Lex.u | (apply Lex.g; exact rfl; exact rfl) | (apply Lex.gq; exact rfl; exact rfl)); (first | exact QX.B TYok | exact QX.Len TYok | exact QX.Idx TYok | exact QX.Ext TYok | exact QCd (h0) | exact QCd (f1) | exact QCd (p1) | exact QCd (r1)); exact rfl) | refine SX.Alloc TYok (h := ?_) | refine SX.Store TYok (h := ?_) | refine SX.Box TYok (h := ?_) | refine SC ?_ | (apply S_isnil TYok; exact rfl; exact rfl; exact rfl; exact Ev.auto; intro bn hnil) | refine SG ?_ | apply LexS.nil | (apply LexS.f; exact rfl; (first | (apply FreshV.alloc TYok; exact rfl; exact rfl; exact rfl; exact rfl) | (apply FreshV.lit TYok; (repeat (first | exact EvR.nil | apply EvR.cons Ev.auto)); exact rfl; exact rfl; exact rfl; exact rfl; exact rfl; exact rfl; exact rfl; exact rfl; exact rfl) | (apply FreshV.box; exact Ev.auto; exact rfl; exact rfl; exact rfl)); exact rfl; exact rfl; exact rfl) | (apply LexS.s; exact rfl; exact rfl; (apply StoreV.mk TYok; exact Ev.auto; exact Ev.auto; exact rfl; exact rfl; exact rfl; exact rfl; exact rfl)) | ((first | apply LexS.u | (apply LexS.g; exact rfl; exact rfl) | (apply LexS.gq; exact rfl; exact rfl)); (repeat (first | (apply NB.cons; exact rfl) | exact NB.nil rfl)); (first | exact QX.B TYok | exact QX.Len TYok | exact QX.Idx TYok | exact QX.Ext TYok | exact QCd (h0) | exact QCd (f1) | exact QCd (p1) | exact QCd (r1)); exact rfl; exact rfl; exact rfl) | (apply W.draw2 (id := 10) [0, 1, 3, 3, 3, 19, 51, 123, 255, 511, 1023] [[9], [79], [8, 80], [2, 80], [1, 80], [83, 80], [84, 80], [82, 85, 80], [81, 86, 80], [87, 80], [80, 88]] 11 [(79, 512), (80, 604462909807314587353088), (81, 1208925819614629174706432), (82, 1208925819614629174706180), (83, 1208925819614629174706178), (84, 10880332376531662572355584), (85, 20551738933448695970004992), (86, 44730255325741279464128512), (87, 80998029914180154705313792), (88, 155951430730287163537096704), (89, 310693935640959697899487232)] mixed (by kernel_rfl) rfl rfl) | (apply W.draw2 (id := 16) [0, 0, 3, 7, 0, 0, 48, 112, 240, 496, 1023, 2047] [[6], [12], [102, 103], [104], [1], [12], [106, 107], [108], [109], [110], [105, 111], [112]] 12 [(102, 64), (103, 4096), (104, 15211807202738752817960438464512), (105, 20282409603651670423947251286016), (106, 2), (107, 4096), (108, 243388915243820045087367015432192), (109, 324518553658426726783156020576256), (110, 649037107316853453566312041152512), (111, 1298074214633706907132624082305024), (112, 2636713248474717155113142667182080), (13, 5192296858534827628530496329220096)] mixed (by kernel_rfl) rfl rfl) | (apply W.draw2 (id := 17) [0, 0, 3, 7, 15, 31, 63, 127, 127, 511, 1023, 2047, 4095, 8191, 16383, 32767, 65535, 65535, 262143, 524287, 65535, 65535, 3211263, 7405567, 15794175, 32571391, 67108863, 134217727, 268435455] [[6], [12], [113, 114], [115], [116], [117], [118], [6, 119], [12, 119], [120, 121, 119], [122, 119], [123, 119], [124, 119], [125, 119], [119, 126], [127], [6, 128], [12, 128], [129, 130, 128], [131, 128], [1, 128], [12, 128], [133, 134, 128], [135, 128], [136, 128], [137, 128], [132, 138, 128], [139, 128], [128, 140]] 29 [(113, 64), (114, 4096), (115, 31153781151208965771182977975320576), (116, 41538374868278621028243970633760768), (117, 83076749736557242056487941267521536), (118, 166153499473114484112975882535043072), (119, 332306998946228968225951765070086144), (120, 664613997892457936451903530140172352), (121, 664613997892457936451903530140176384), (122, 4652297985247205555163324710981206016), (123, 5981525981032121428067131771261550592), (124, 11298437964171784919682360012382928896), (125, 21932261930451111902912816494625685504), (126, 43199909863009765869373729459111198720), (127, 85735205728127073802295555388082225152), (128, 170141183460469231731687303715884105728), (129, 340282366920938463463374607431768211520), (130, 340282366920938463463374607431768215552), (131, 2381976568446569244243622252022377480192), (132, 3062541302288446171170371466885913903104), (133, 340282366920938463463374607431768211458), (134, 340282366920938463463374607431768215552), (135, 33007389591331030955947336920881516511232), (136, 43896425332801061786775324358698099277824), (137, 87452568298681185110087274109964430344192), (138, 174564854230441431756711173612497092476928), (139, 354233943964696940465372966336470708125696), (140, 697238569821002911636454570627693065273344), (141, 1394136857275084884809445766647954362335232)] mixed (by kernel_rfl) rfl rfl) | (apply W.draw2 (id := 26) [0, 0, 3, 7, 15, 0, 0, 96, 224, 480, 1023, 2047, 4095, 8191, 16383, 32767, 65535, 131071, 262143, 524287, 1048575, 1048575, 4194303, 8388607, 16777215] [[1], [12], [215, 216], [217], [218], [1], [14], [220, 221], [222], [223], [219, 224], [225], [16, 226], [227, 226], [226, 228], [229], [18, 230], [231, 230], [230, 232], [233], [15, 234], [17, 234], [235, 236, 234], [237, 234], [234, 238]] 25 [(215, 2), (216, 4096), (217, 157968437502835780046877041525505648478342643100823666881466466304), (218, 210624583337114373395836055367340864637790190801098222508621955072), (219, 421249166674228746791672110734681729275580381602196445017243910144), (220, 2), (221, 16384), (222, 5054990000090744961500065328816180751306964579226357340206926921728), (223, 6739986666787659948666753771754907668409286105635143120275902562304), (224, 13479973333575319897333507543509815336818572211270286240551805124608), (225, 27802445000499097288250359308488994132188305185744965371138098069504), (226, 53919893334301279589334030174039261347274288845081144962207220498432), (227, 107839786668602559178668060348078522694548577690162289924414441062400), (228, 323519360005807677536004181044235568083645733070486869773243322990592), (229, 539198933343012795893340301740392613472742888450811449622072204984320), (230, 862718293348820473429344482784628181556388621521298319395315527974912), (231, 1725436586697640946858688965569256363112777243042596638790631056211968), (232, 5176309760092922840576066896707769089338331729127789916371893167849472), (233, 8627182933488204734293444827846281815563886215212983193953155279749120), (234, 13803492693581127574869511724554050904902217944340773110325048447598592), (235, 27606985387162255149739023449108101809804435888681546220650096895229952), (236, 27606985387162255149739023449108101809804435888681546220650096895328256), (237, 193248897710135786048173164143756712668631051220770823544550678266380288), (238, 248462868484460296347651211041972916288239922998133915985850872056774656), (239, 469318751581758337545563398634837730766675410107586285751051647218352128)] mixed (by kernel_rfl) rfl rfl) | (refine W.drawS (id := 24) [0, 0, 3, 7, 0, 0, 48, 112, 240, 496, 1023, 2047, 4095, 4095, 0, 24575, 65535] [[6], [12], [188, 189], [190], [1], [14], [192, 193], [194], [195], [196], [191, 197], [198], [187], [187], [], [15, 199], [200]] [(15, (15, ?_)), (14, (15, ?_))] [(15, 15), (14, 15)] mixed (by kernel_rfl) rfl ?_; rotate_left 2) | (refine W.drawS (id := 25) [0, 0, 3, 7, 0, 0, 48, 112, 240, 496, 1023, 2047, 4095, 4095, 0, 24575, 65535] [[6], [14], [202, 203], [204], [1], [12], [206, 207], [208], [209], [210], [205, 211], [212], [201], [201], [], [17, 213], [214]] [(15, (17, ?_)), (14, (17, ?_))] [(15, 17), (14, 17)] mixed (by kernel_rfl) rfl ?_; rotate_left 2) | (refine W.condA (ht := fun hb => ?_) (hf := fun hb => ?_) <;> (try simp at hb) <;> (try (exfalso; first | exact hbad hb | omega))))
    all_goals first
      | exact Fin.ret ResL.auto
      | trace_state
  obtain ⟨⟨⟨⟨w1, w2⟩, w3⟩, hc⟩, hr⟩ := hw
  rw [decide_eq_true w1, decide_eq_true w2, decide_eq_true w3] at f1
  rw [hc] at p1
  rw [hr] at r1
  obtain ⟨hok, ha, hl2⟩ := rightC_yes hc
  cases q with
  | mk s d s' d' =>
  simp only at *
  obtain ⟨r, o, rfl, rfl, rfl, rfl⟩ := frac_of hr
  have b := bd_of (n := 20) (r := r) (by omega) (by omega)
  have sg := sgnR_cases r
  by_cases h1 : r < 0
  · have hs : sgn r.num < 0 := by
      rcases sg with h | h | h
      · omega
      · exact absurd h.2 (by grind)
      · exact absurd h.2 (by grind)
    have s1 := split_neg r l o h1 hl
    refine ACalls.of_W (qs := [cB true]) [4] 241 Try.func4 (by kernel_rfl) rfl rfl rfl fun G => ?_
    refine W.initA (hw := ?_)
    repeat' (first | ((first | apply U_ | (apply Ug_; exact rfl; exact rfl) | (apply Ugq_; exact rfl; exact rfl) | apply Lex.u | (apply Lex.g; exact rfl; exact rfl) | (apply Lex.gq; exact rfl; exact rfl)); (first | exact QX.B TYok | exact QX.Len TYok | exact QX.Idx TYok | exact QX.Ext TYok | exact QCd (h0) | exact QCd (f1) | exact QCd (p1) | exact QCd (r1) | exact QCd (s1)); exact rfl) | refine SX.Alloc TYok (h := ?_) | refine SX.Store TYok (h := ?_) | refine SX.Box TYok (h := ?_) | refine SC ?_ | (apply S_isnil TYok; exact rfl; exact rfl; exact rfl; exact Ev.auto; intro bn hnil) | refine SG ?_ | apply LexS.nil | (apply LexS.f; exact rfl; (first | (apply FreshV.alloc TYok; exact rfl; exact rfl; exact rfl; exact rfl) | (apply FreshV.lit TYok; (repeat (first | exact EvR.nil | apply EvR.cons Ev.auto)); exact rfl; exact rfl; exact rfl; exact rfl; exact rfl; exact rfl; exact rfl; exact rfl; exact rfl) | (apply FreshV.box; exact Ev.auto; exact rfl; exact rfl; exact rfl)); exact rfl; exact rfl; exact rfl) | (apply LexS.s; exact rfl; exact rfl; (apply StoreV.mk TYok; exact Ev.auto; exact Ev.auto; exact rfl; exact rfl; exact rfl; exact rfl; exact rfl)) | ((first | apply LexS.u | (apply LexS.g; exact rfl; exact rfl) | (apply LexS.gq; exact rfl; exact rfl)); (repeat (first | (apply NB.cons; exact rfl) | exact NB.nil rfl)); (first | exact QX.B TYok | exact QX.Len TYok | exact QX.Idx TYok | exact QX.Ext TYok | exact QCd (h0) | exact QCd (f1) | exact QCd (p1) | exact QCd (r1) | exact QCd (s1)); exact rfl; exact rfl; exact rfl) | (apply W.draw2 (id := 10) [0, 1, 3, 3, 3, 19, 51, 123, 255, 511, 1023] [[9], [79], [8, 80], [2, 80], [1, 80], [83, 80], [84, 80], [82, 85, 80], [81, 86, 80], [87, 80], [80, 88]] 11 [(79, 512), (80, 604462909807314587353088), (81, 1208925819614629174706432), (82, 1208925819614629174706180), (83, 1208925819614629174706178), (84, 10880332376531662572355584), (85, 20551738933448695970004992), (86, 44730255325741279464128512), (87, 80998029914180154705313792), (88, 155951430730287163537096704), (89, 310693935640959697899487232)] mixed (by kernel_rfl) rfl rfl) | (apply W.draw2 (id := 16) [0, 0, 3, 7, 0, 0, 48, 112, 240, 496, 1023, 2047] [[6], [12], [102, 103], [104], [1], [12], [106, 107], [108], [109], [110], [105, 111], [112]] 12 [(102, 64), (103, 4096), (104, 15211807202738752817960438464512), (105, 20282409603651670423947251286016), (106, 2), (107, 4096), (108, 243388915243820045087367015432192), (109, 324518553658426726783156020576256), (110, 649037107316853453566312041152512), (111, 1298074214633706907132624082305024), (112, 2636713248474717155113142667182080), (13, 5192296858534827628530496329220096)] mixed (by kernel_rfl) rfl rfl) | (apply W.draw2 (id := 17) [0, 0, 3, 7, 15, 31, 63, 127, 127, 511, 1023, 2047, 4095, 8191, 16383, 32767, 65535, 65535, 262143, 524287, 65535, 65535, 3211263, 7405567, 15794175, 32571391, 67108863, 134217727, 268435455] [[6], [12], [113, 114], [115], [116], [117], [118], [6, 119], [12, 119], [120, 121, 119], [122, 119], [123, 119], [124, 119], [125, 119], [119, 126], [127], [6, 128], [12, 128], [129, 130, 128], [131, 128], [1, 128], [12, 128], [133, 134, 128], [135, 128], [136, 128], [137, 128], [132, 138, 128], [139, 128], [128, 140]] 29 [(113, 64), (114, 4096), (115, 31153781151208965771182977975320576), (116, 41538374868278621028243970633760768), (117, 83076749736557242056487941267521536), (118, 166153499473114484112975882535043072), (119, 332306998946228968225951765070086144), (120, 664613997892457936451903530140172352), (121, 664613997892457936451903530140176384), (122, 4652297985247205555163324710981206016), (123, 5981525981032121428067131771261550592), (124, 11298437964171784919682360012382928896), (125, 21932261930451111902912816494625685504), (126, 43199909863009765869373729459111198720), (127, 85735205728127073802295555388082225152), (128, 170141183460469231731687303715884105728), (129, 340282366920938463463374607431768211520), (130, 340282366920938463463374607431768215552), (131, 2381976568446569244243622252022377480192), (132, 3062541302288446171170371466885913903104), (133, 340282366920938463463374607431768211458), (134, 340282366920938463463374607431768215552), (135, 33007389591331030955947336920881516511232), (136, 43896425332801061786775324358698099277824), (137, 87452568298681185110087274109964430344192), (138, 174564854230441431756711173612497092476928), (139, 354233943964696940465372966336470708125696), (140, 697238569821002911636454570627693065273344), (141, 1394136857275084884809445766647954362335232)] mixed (by kernel_rfl) rfl rfl) | (apply W.draw2 (id := 26) [0, 0, 3, 7, 15, 0, 0, 96, 224, 480, 1023, 2047, 4095, 8191, 16383, 32767, 65535, 131071, 262143, 524287, 1048575, 1048575, 4194303, 8388607, 16777215] [[1], [12], [215, 216], [217], [218], [1], [14], [220, 221], [222], [223], [219, 224], [225], [16, 226], [227, 226], [226, 228], [229], [18, 230], [231, 230], [230, 232], [233], [15, 234], [17, 234], [235, 236, 234], [237, 234], [234, 238]] 25 [(215, 2), (216, 4096), (217, 157968437502835780046877041525505648478342643100823666881466466304), (218, 210624583337114373395836055367340864637790190801098222508621955072), (219, 421249166674228746791672110734681729275580381602196445017243910144), (220, 2), (221, 16384), (222, 5054990000090744961500065328816180751306964579226357340206926921728), (223, 6739986666787659948666753771754907668409286105635143120275902562304), (224, 13479973333575319897333507543509815336818572211270286240551805124608), (225, 27802445000499097288250359308488994132188305185744965371138098069504), (226, 53919893334301279589334030174039261347274288845081144962207220498432), (227, 107839786668602559178668060348078522694548577690162289924414441062400), (228, 323519360005807677536004181044235568083645733070486869773243322990592), (229, 539198933343012795893340301740392613472742888450811449622072204984320), (230, 862718293348820473429344482784628181556388621521298319395315527974912), (231, 1725436586697640946858688965569256363112777243042596638790631056211968), (232, 5176309760092922840576066896707769089338331729127789916371893167849472), (233, 8627182933488204734293444827846281815563886215212983193953155279749120), (234, 13803492693581127574869511724554050904902217944340773110325048447598592), (235, 27606985387162255149739023449108101809804435888681546220650096895229952), (236, 27606985387162255149739023449108101809804435888681546220650096895328256), (237, 193248897710135786048173164143756712668631051220770823544550678266380288), (238, 248462868484460296347651211041972916288239922998133915985850872056774656), (239, 469318751581758337545563398634837730766675410107586285751051647218352128)] mixed (by kernel_rfl) rfl rfl) | (refine W.drawS (id := 24) [0, 0, 3, 7, 0, 0, 48, 112, 240, 496, 1023, 2047, 4095, 4095, 0, 24575, 65535] [[6], [12], [188, 189], [190], [1], [14], [192, 193], [194], [195], [196], [191, 197], [198], [187], [187], [], [15, 199], [200]] [(15, (15, ?_)), (14, (15, ?_))] [(15, 15), (14, 15)] mixed (by kernel_rfl) rfl ?_; rotate_left 2) | (refine W.drawS (id := 25) [0, 0, 3, 7, 0, 0, 48, 112, 240, 496, 1023, 2047, 4095, 4095, 0, 24575, 65535] [[6], [14], [202, 203], [204], [1], [12], [206, 207], [208], [209], [210], [205, 211], [212], [201], [201], [], [17, 213], [214]] [(15, (17, ?_)), (14, (17, ?_))] [(15, 17), (14, 17)] mixed (by kernel_rfl) rfl ?_; rotate_left 2) | (refine W.condA (ht := fun hb => ?_) (hf := fun hb => ?_) <;> (try simp at hb) <;> (try (exfalso; omega))))
    all_goals first
      | exact Fin.ret ResL.auto
      | trace_state
  have hs : ¬ sgn r.num < 0 := by
    rcases sg with h | h | h
    · exact absurd h.2 h1
    · omega
    · omega
  have h1' : 0 ≤ r := by grind
  have s1 := split_ok r l b h1' hc
  have ol := payL_ok b ha hl2
  have ll := payL_len r l
  obtain ⟨v, bb, m1, ov, hv⟩ := sum_ok (payL r l) ol (by omega)
  have t1 := total_ok l ha hl2
  have st := sums_rng ha hl2 0
  have o1 := ofw_ok (total l) (by unfold i64B; omega)
  have ot := int_bd (n := total l) (by omega)
  have l1 := least_ok r (total l : Rat) (bd_ok b (by omega)) (bd_ok ot (by omega))
  have e1 := same_ok v (minR r (total l : Rat)) ov (minR_ok (bd_ok b (by omega)) (bd_ok ot (by omega)))
  have hbs : bb = true → v = minR r (total l : Rat) := fun h => by rw [hv h, pay_sum h1' hok]
  have k1 := pshort_ok l (payL r l) hc ll ol
  have hrank := fun i (hi : i < l.length) => rank_law (r := r) hok hi _ rfl _ rfl
  clear hv sg
  generalize minR r (total l : Rat) = M at *
  generalize lst l (payL r l) l.length = m at *
  generalize (if m = 10 then (0 : Int) else m) = fi at *
  have hL := fun i (hi : i < l.length) => payL_nth r hi
  have hpart := fun (a : Cl) (c d : Int) => pay_part r (less l a.rank) (same l a.rank) c d
  have hbd := fun c (hc : c ∈ l) => payC_bd b ha hl2 hc
  have hrng := fun (c : Cl) (h : c ∈ l) => pay_rng r (less l c.rank) (same l c.rank) (hok c h).2.2
  have hpC : ∀ c : Cl, pay r (less l c.rank) (same l c.rank) c.amt = payC r l c := fun c => rfl
  have hpart2 : ∀ c d : Cl, c.rank = d.rank → payC r l c * (d.amt : Rat) = payC r l d * (c.amt : Rat) := fun c d e => by
    have := hpart c c.amt d.amt
    rw [hpC] at this
    unfold payC at this ⊢
    rw [← e]; exact this
  simp only [hpC] at hrng
  generalize hLL : payL r l = L at *
  clear hpart hLL
  have hbad : bb = true ∧ ¬ v = M → False := fun h => h.2 (hbs h.1)
  clear hbs hpC
  refine ACalls.of_W (qs := [cB true]) [4] 241 Try.func4 (by kernel_rfl) rfl rfl rfl fun G => ?_
  refine W.initA (hw := ?_)
  repeat' (first | ((first | apply U_ | (apply Ug_; exact rfl; exact rfl) | (apply Ugq_; exact rfl; exact rfl) | apply Lex.u | (apply Lex.g; exact rfl; exact rfl) | (apply Lex.gq; exact rfl; exact rfl)); (first | exact QX.B TYok | exact QX.Len TYok | exact QX.Idx TYok | exact QX.Ext TYok | exact QCd (h0) | exact QCd (f1) | exact QCd (p1) | exact QCd (r1) | exact QCd (s1) | exact QCd (m1) | exact QCd (t1) | exact QCd (o1) | exact QCd (l1) | exact QCd (e1) | exact QCd (k1)); exact rfl) | refine SX.Alloc TYok (h := ?_) | refine SX.Store TYok (h := ?_) | refine SX.Box TYok (h := ?_) | refine SC ?_ | (apply S_isnil TYok; exact rfl; exact rfl; exact rfl; exact Ev.auto; intro bn hnil) | refine SG ?_ | apply LexS.nil | (apply LexS.f; exact rfl; (first | (apply FreshV.alloc TYok; exact rfl; exact rfl; exact rfl; exact rfl) | (apply FreshV.lit TYok; (repeat (first | exact EvR.nil | apply EvR.cons Ev.auto)); exact rfl; exact rfl; exact rfl; exact rfl; exact rfl; exact rfl; exact rfl; exact rfl; exact rfl) | (apply FreshV.box; exact Ev.auto; exact rfl; exact rfl; exact rfl)); exact rfl; exact rfl; exact rfl) | (apply LexS.s; exact rfl; exact rfl; (apply StoreV.mk TYok; exact Ev.auto; exact Ev.auto; exact rfl; exact rfl; exact rfl; exact rfl; exact rfl)) | ((first | apply LexS.u | (apply LexS.g; exact rfl; exact rfl) | (apply LexS.gq; exact rfl; exact rfl)); (repeat (first | (apply NB.cons; exact rfl) | exact NB.nil rfl)); (first | exact QX.B TYok | exact QX.Len TYok | exact QX.Idx TYok | exact QX.Ext TYok | exact QCd (h0) | exact QCd (f1) | exact QCd (p1) | exact QCd (r1) | exact QCd (s1) | exact QCd (m1) | exact QCd (t1) | exact QCd (o1) | exact QCd (l1) | exact QCd (e1) | exact QCd (k1)); exact rfl; exact rfl; exact rfl) | (apply W.draw2 (id := 10) [0, 1, 3, 3, 3, 19, 51, 123, 255, 511, 1023] [[9], [79], [8, 80], [2, 80], [1, 80], [83, 80], [84, 80], [82, 85, 80], [81, 86, 80], [87, 80], [80, 88]] 11 [(79, 512), (80, 604462909807314587353088), (81, 1208925819614629174706432), (82, 1208925819614629174706180), (83, 1208925819614629174706178), (84, 10880332376531662572355584), (85, 20551738933448695970004992), (86, 44730255325741279464128512), (87, 80998029914180154705313792), (88, 155951430730287163537096704), (89, 310693935640959697899487232)] mixed (by kernel_rfl) rfl rfl) | (apply W.draw2 (id := 16) [0, 0, 3, 7, 0, 0, 48, 112, 240, 496, 1023, 2047] [[6], [12], [102, 103], [104], [1], [12], [106, 107], [108], [109], [110], [105, 111], [112]] 12 [(102, 64), (103, 4096), (104, 15211807202738752817960438464512), (105, 20282409603651670423947251286016), (106, 2), (107, 4096), (108, 243388915243820045087367015432192), (109, 324518553658426726783156020576256), (110, 649037107316853453566312041152512), (111, 1298074214633706907132624082305024), (112, 2636713248474717155113142667182080), (13, 5192296858534827628530496329220096)] mixed (by kernel_rfl) rfl rfl) | (apply W.draw2 (id := 17) [0, 0, 3, 7, 15, 31, 63, 127, 127, 511, 1023, 2047, 4095, 8191, 16383, 32767, 65535, 65535, 262143, 524287, 65535, 65535, 3211263, 7405567, 15794175, 32571391, 67108863, 134217727, 268435455] [[6], [12], [113, 114], [115], [116], [117], [118], [6, 119], [12, 119], [120, 121, 119], [122, 119], [123, 119], [124, 119], [125, 119], [119, 126], [127], [6, 128], [12, 128], [129, 130, 128], [131, 128], [1, 128], [12, 128], [133, 134, 128], [135, 128], [136, 128], [137, 128], [132, 138, 128], [139, 128], [128, 140]] 29 [(113, 64), (114, 4096), (115, 31153781151208965771182977975320576), (116, 41538374868278621028243970633760768), (117, 83076749736557242056487941267521536), (118, 166153499473114484112975882535043072), (119, 332306998946228968225951765070086144), (120, 664613997892457936451903530140172352), (121, 664613997892457936451903530140176384), (122, 4652297985247205555163324710981206016), (123, 5981525981032121428067131771261550592), (124, 11298437964171784919682360012382928896), (125, 21932261930451111902912816494625685504), (126, 43199909863009765869373729459111198720), (127, 85735205728127073802295555388082225152), (128, 170141183460469231731687303715884105728), (129, 340282366920938463463374607431768211520), (130, 340282366920938463463374607431768215552), (131, 2381976568446569244243622252022377480192), (132, 3062541302288446171170371466885913903104), (133, 340282366920938463463374607431768211458), (134, 340282366920938463463374607431768215552), (135, 33007389591331030955947336920881516511232), (136, 43896425332801061786775324358698099277824), (137, 87452568298681185110087274109964430344192), (138, 174564854230441431756711173612497092476928), (139, 354233943964696940465372966336470708125696), (140, 697238569821002911636454570627693065273344), (141, 1394136857275084884809445766647954362335232)] mixed (by kernel_rfl) rfl rfl) | (apply W.draw2 (id := 26) [0, 0, 3, 7, 15, 0, 0, 96, 224, 480, 1023, 2047, 4095, 8191, 16383, 32767, 65535, 131071, 262143, 524287, 1048575, 1048575, 4194303, 8388607, 16777215] [[1], [12], [215, 216], [217], [218], [1], [14], [220, 221], [222], [223], [219, 224], [225], [16, 226], [227, 226], [226, 228], [229], [18, 230], [231, 230], [230, 232], [233], [15, 234], [17, 234], [235, 236, 234], [237, 234], [234, 238]] 25 [(215, 2), (216, 4096), (217, 157968437502835780046877041525505648478342643100823666881466466304), (218, 210624583337114373395836055367340864637790190801098222508621955072), (219, 421249166674228746791672110734681729275580381602196445017243910144), (220, 2), (221, 16384), (222, 5054990000090744961500065328816180751306964579226357340206926921728), (223, 6739986666787659948666753771754907668409286105635143120275902562304), (224, 13479973333575319897333507543509815336818572211270286240551805124608), (225, 27802445000499097288250359308488994132188305185744965371138098069504), (226, 53919893334301279589334030174039261347274288845081144962207220498432), (227, 107839786668602559178668060348078522694548577690162289924414441062400), (228, 323519360005807677536004181044235568083645733070486869773243322990592), (229, 539198933343012795893340301740392613472742888450811449622072204984320), (230, 862718293348820473429344482784628181556388621521298319395315527974912), (231, 1725436586697640946858688965569256363112777243042596638790631056211968), (232, 5176309760092922840576066896707769089338331729127789916371893167849472), (233, 8627182933488204734293444827846281815563886215212983193953155279749120), (234, 13803492693581127574869511724554050904902217944340773110325048447598592), (235, 27606985387162255149739023449108101809804435888681546220650096895229952), (236, 27606985387162255149739023449108101809804435888681546220650096895328256), (237, 193248897710135786048173164143756712668631051220770823544550678266380288), (238, 248462868484460296347651211041972916288239922998133915985850872056774656), (239, 469318751581758337545563398634837730766675410107586285751051647218352128)] mixed (by kernel_rfl) rfl rfl) | (refine W.drawS (id := 24) [0, 0, 3, 7, 0, 0, 48, 112, 240, 496, 1023, 2047, 4095, 4095, 0, 24575, 65535] [[6], [12], [188, 189], [190], [1], [14], [192, 193], [194], [195], [196], [191, 197], [198], [187], [187], [], [15, 199], [200]] [(15, (15, ?_)), (14, (15, ?_))] [(15, 15), (14, 15)] mixed (by kernel_rfl) rfl ?_; rotate_left 2) | (refine W.drawS (id := 25) [0, 0, 3, 7, 0, 0, 48, 112, 240, 496, 1023, 2047, 4095, 4095, 0, 24575, 65535] [[6], [14], [202, 203], [204], [1], [12], [206, 207], [208], [209], [210], [205, 211], [212], [201], [201], [], [17, 213], [214]] [(15, (17, ?_)), (14, (17, ?_))] [(15, 17), (14, 17)] mixed (by kernel_rfl) rfl ?_; rotate_left 2) | (refine W.condA (ht := fun hb => ?_) (hf := fun hb => ?_) <;> (try simp at hb) <;> (try (exfalso; first | exact hbad hb | omega))))
  apply W.loopP (σ := Nat) 241 [1, 5, 6, 10, 11] (fun i => i ≤ l.length) (fun i => [(12, vI i)]) (fun _ => []) (fun i => l.length - i) (0)
  case hp => repeat (first | exact Pick.nil | apply Pick.cons rfl)
  case h0 =>
    refine ⟨by omega, ?_⟩
    exact Le.auto
  case round =>
    rintro i gi
    apply W.norm (by repeat (first | exact App.nil | apply App.cons))
    by_cases hi : i < l.length
    case neg =>
      obtain rfl : i = l.length := by omega
      repeat' (first | ((first | apply U_ | (apply Ug_; exact rfl; exact rfl) | (apply Ugq_; exact rfl; exact rfl) | apply Lex.u | (apply Lex.g; exact rfl; exact rfl) | (apply Lex.gq; exact rfl; exact rfl)); (first | exact QX.B TYok | exact QX.Len TYok | exact QX.Idx TYok | exact QX.Ext TYok); exact rfl) | refine SX.Alloc TYok (h := ?_) | refine SX.Store TYok (h := ?_) | refine SX.Box TYok (h := ?_) | refine SC ?_ | (apply S_isnil TYok; exact rfl; exact rfl; exact rfl; exact Ev.auto; intro bn hnil) | refine SG ?_ | apply LexS.nil | (apply LexS.f; exact rfl; (first | (apply FreshV.alloc TYok; exact rfl; exact rfl; exact rfl; exact rfl) | (apply FreshV.lit TYok; (repeat (first | exact EvR.nil | apply EvR.cons Ev.auto)); exact rfl; exact rfl; exact rfl; exact rfl; exact rfl; exact rfl; exact rfl; exact rfl; exact rfl) | (apply FreshV.box; exact Ev.auto; exact rfl; exact rfl; exact rfl)); exact rfl; exact rfl; exact rfl) | (apply LexS.s; exact rfl; exact rfl; (apply StoreV.mk TYok; exact Ev.auto; exact Ev.auto; exact rfl; exact rfl; exact rfl; exact rfl; exact rfl)) | ((first | apply LexS.u | (apply LexS.g; exact rfl; exact rfl) | (apply LexS.gq; exact rfl; exact rfl)); (repeat (first | (apply NB.cons; exact rfl) | exact NB.nil rfl)); (first | exact QX.B TYok | exact QX.Len TYok | exact QX.Idx TYok | exact QX.Ext TYok); exact rfl; exact rfl; exact rfl) | (apply W.draw2 (id := 10) [0, 1, 3, 3, 3, 19, 51, 123, 255, 511, 1023] [[9], [79], [8, 80], [2, 80], [1, 80], [83, 80], [84, 80], [82, 85, 80], [81, 86, 80], [87, 80], [80, 88]] 11 [(79, 512), (80, 604462909807314587353088), (81, 1208925819614629174706432), (82, 1208925819614629174706180), (83, 1208925819614629174706178), (84, 10880332376531662572355584), (85, 20551738933448695970004992), (86, 44730255325741279464128512), (87, 80998029914180154705313792), (88, 155951430730287163537096704), (89, 310693935640959697899487232)] mixed (by kernel_rfl) rfl rfl) | (apply W.draw2 (id := 16) [0, 0, 3, 7, 0, 0, 48, 112, 240, 496, 1023, 2047] [[6], [12], [102, 103], [104], [1], [12], [106, 107], [108], [109], [110], [105, 111], [112]] 12 [(102, 64), (103, 4096), (104, 15211807202738752817960438464512), (105, 20282409603651670423947251286016), (106, 2), (107, 4096), (108, 243388915243820045087367015432192), (109, 324518553658426726783156020576256), (110, 649037107316853453566312041152512), (111, 1298074214633706907132624082305024), (112, 2636713248474717155113142667182080), (13, 5192296858534827628530496329220096)] mixed (by kernel_rfl) rfl rfl) | (apply W.draw2 (id := 17) [0, 0, 3, 7, 15, 31, 63, 127, 127, 511, 1023, 2047, 4095, 8191, 16383, 32767, 65535, 65535, 262143, 524287, 65535, 65535, 3211263, 7405567, 15794175, 32571391, 67108863, 134217727, 268435455] [[6], [12], [113, 114], [115], [116], [117], [118], [6, 119], [12, 119], [120, 121, 119], [122, 119], [123, 119], [124, 119], [125, 119], [119, 126], [127], [6, 128], [12, 128], [129, 130, 128], [131, 128], [1, 128], [12, 128], [133, 134, 128], [135, 128], [136, 128], [137, 128], [132, 138, 128], [139, 128], [128, 140]] 29 [(113, 64), (114, 4096), (115, 31153781151208965771182977975320576), (116, 41538374868278621028243970633760768), (117, 83076749736557242056487941267521536), (118, 166153499473114484112975882535043072), (119, 332306998946228968225951765070086144), (120, 664613997892457936451903530140172352), (121, 664613997892457936451903530140176384), (122, 4652297985247205555163324710981206016), (123, 5981525981032121428067131771261550592), (124, 11298437964171784919682360012382928896), (125, 21932261930451111902912816494625685504), (126, 43199909863009765869373729459111198720), (127, 85735205728127073802295555388082225152), (128, 170141183460469231731687303715884105728), (129, 340282366920938463463374607431768211520), (130, 340282366920938463463374607431768215552), (131, 2381976568446569244243622252022377480192), (132, 3062541302288446171170371466885913903104), (133, 340282366920938463463374607431768211458), (134, 340282366920938463463374607431768215552), (135, 33007389591331030955947336920881516511232), (136, 43896425332801061786775324358698099277824), (137, 87452568298681185110087274109964430344192), (138, 174564854230441431756711173612497092476928), (139, 354233943964696940465372966336470708125696), (140, 697238569821002911636454570627693065273344), (141, 1394136857275084884809445766647954362335232)] mixed (by kernel_rfl) rfl rfl) | (apply W.draw2 (id := 26) [0, 0, 3, 7, 15, 0, 0, 96, 224, 480, 1023, 2047, 4095, 8191, 16383, 32767, 65535, 131071, 262143, 524287, 1048575, 1048575, 4194303, 8388607, 16777215] [[1], [12], [215, 216], [217], [218], [1], [14], [220, 221], [222], [223], [219, 224], [225], [16, 226], [227, 226], [226, 228], [229], [18, 230], [231, 230], [230, 232], [233], [15, 234], [17, 234], [235, 236, 234], [237, 234], [234, 238]] 25 [(215, 2), (216, 4096), (217, 157968437502835780046877041525505648478342643100823666881466466304), (218, 210624583337114373395836055367340864637790190801098222508621955072), (219, 421249166674228746791672110734681729275580381602196445017243910144), (220, 2), (221, 16384), (222, 5054990000090744961500065328816180751306964579226357340206926921728), (223, 6739986666787659948666753771754907668409286105635143120275902562304), (224, 13479973333575319897333507543509815336818572211270286240551805124608), (225, 27802445000499097288250359308488994132188305185744965371138098069504), (226, 53919893334301279589334030174039261347274288845081144962207220498432), (227, 107839786668602559178668060348078522694548577690162289924414441062400), (228, 323519360005807677536004181044235568083645733070486869773243322990592), (229, 539198933343012795893340301740392613472742888450811449622072204984320), (230, 862718293348820473429344482784628181556388621521298319395315527974912), (231, 1725436586697640946858688965569256363112777243042596638790631056211968), (232, 5176309760092922840576066896707769089338331729127789916371893167849472), (233, 8627182933488204734293444827846281815563886215212983193953155279749120), (234, 13803492693581127574869511724554050904902217944340773110325048447598592), (235, 27606985387162255149739023449108101809804435888681546220650096895229952), (236, 27606985387162255149739023449108101809804435888681546220650096895328256), (237, 193248897710135786048173164143756712668631051220770823544550678266380288), (238, 248462868484460296347651211041972916288239922998133915985850872056774656), (239, 469318751581758337545563398634837730766675410107586285751051647218352128)] mixed (by kernel_rfl) rfl rfl) | (refine W.drawS (id := 24) [0, 0, 3, 7, 0, 0, 48, 112, 240, 496, 1023, 2047, 4095, 4095, 0, 24575, 65535] [[6], [12], [188, 189], [190], [1], [14], [192, 193], [194], [195], [196], [191, 197], [198], [187], [187], [], [15, 199], [200]] [(15, (15, ?_)), (14, (15, ?_))] [(15, 15), (14, 15)] mixed (by kernel_rfl) rfl ?_; rotate_left 2) | (refine W.drawS (id := 25) [0, 0, 3, 7, 0, 0, 48, 112, 240, 496, 1023, 2047, 4095, 4095, 0, 24575, 65535] [[6], [14], [202, 203], [204], [1], [12], [206, 207], [208], [209], [210], [205, 211], [212], [201], [201], [], [17, 213], [214]] [(15, (17, ?_)), (14, (17, ?_))] [(15, 17), (14, 17)] mixed (by kernel_rfl) rfl ?_; rotate_left 2) | (refine W.condA (ht := fun hb => ?_) (hf := fun hb => ?_) <;> (try simp at hb) <;> (try (exfalso; omega))))
      all_goals first
        | exact Fin.ret ResL.auto
        | trace_state
    have hLi := hL i hi
    have oi := ol _ (nth_mem (l := L) (show i < L.length by omega))
    have ci := amt_nth ha hi
    have bi := hbd _ (nth_mem hi)
    have gi2 := hrng _ (nth_mem hi)
    have hri := hrank i hi
    rw [← hLi] at bi gi2 hri
    have oi1 := ofw_ok (nth l i).amt (by unfold i64B; omega)
    have oa := int_bd (n := (nth l i).amt) (by omega)
    have ei := same_ok (nth L i) ((nth l i).amt : Rat) oi (bd_ok oa (by omega))
    have qi := qright_yes (nth L i) oi
    have ki := qcmp_ok (nth L i) ((nth l i).amt : Rat) oi (bd_ok oa (by omega))
    have hsi : ¬ sgn (nth L i).num < 0 := by
      rcases sgnR_cases (nth L i) with h | h | h
      · exact absurd h.2 (by grind)
      · omega
      · omega
    have hki : ¬ 0 < cmpR (nth L i) ((nth l i).amt : Rat) := by
      rcases cmpR_cases (nth L i) ((nth l i).amt : Rat) with h | h | h
      · omega
      · omega
      · exact absurd h.2 (by grind)
    generalize cmpR (nth L i) ((nth l i).amt : Rat) = C at *
    repeat' (first | ((first | apply U_ | (apply Ug_; exact rfl; exact rfl) | (apply Ugq_; exact rfl; exact rfl) | apply Lex.u | (apply Lex.g; exact rfl; exact rfl) | (apply Lex.gq; exact rfl; exact rfl)); (first | exact QX.B TYok | exact QX.Len TYok | exact QX.Idx TYok | exact QX.Ext TYok | exact QCd (oi1) | exact QCd (ei) | exact QCd (qi) | exact QCd (ki)); exact rfl) | refine SX.Alloc TYok (h := ?_) | refine SX.Store TYok (h := ?_) | refine SX.Box TYok (h := ?_) | refine SC ?_ | (apply S_isnil TYok; exact rfl; exact rfl; exact rfl; exact Ev.auto; intro bn hnil) | refine SG ?_ | apply LexS.nil | (apply LexS.f; exact rfl; (first | (apply FreshV.alloc TYok; exact rfl; exact rfl; exact rfl; exact rfl) | (apply FreshV.lit TYok; (repeat (first | exact EvR.nil | apply EvR.cons Ev.auto)); exact rfl; exact rfl; exact rfl; exact rfl; exact rfl; exact rfl; exact rfl; exact rfl; exact rfl) | (apply FreshV.box; exact Ev.auto; exact rfl; exact rfl; exact rfl)); exact rfl; exact rfl; exact rfl) | (apply LexS.s; exact rfl; exact rfl; (apply StoreV.mk TYok; exact Ev.auto; exact Ev.auto; exact rfl; exact rfl; exact rfl; exact rfl; exact rfl)) | ((first | apply LexS.u | (apply LexS.g; exact rfl; exact rfl) | (apply LexS.gq; exact rfl; exact rfl)); (repeat (first | (apply NB.cons; exact rfl) | exact NB.nil rfl)); (first | exact QX.B TYok | exact QX.Len TYok | exact QX.Idx TYok | exact QX.Ext TYok | exact QCd (oi1) | exact QCd (ei) | exact QCd (qi) | exact QCd (ki)); exact rfl; exact rfl; exact rfl) | (apply W.draw2 (id := 10) [0, 1, 3, 3, 3, 19, 51, 123, 255, 511, 1023] [[9], [79], [8, 80], [2, 80], [1, 80], [83, 80], [84, 80], [82, 85, 80], [81, 86, 80], [87, 80], [80, 88]] 11 [(79, 512), (80, 604462909807314587353088), (81, 1208925819614629174706432), (82, 1208925819614629174706180), (83, 1208925819614629174706178), (84, 10880332376531662572355584), (85, 20551738933448695970004992), (86, 44730255325741279464128512), (87, 80998029914180154705313792), (88, 155951430730287163537096704), (89, 310693935640959697899487232)] mixed (by kernel_rfl) rfl rfl) | (apply W.draw2 (id := 16) [0, 0, 3, 7, 0, 0, 48, 112, 240, 496, 1023, 2047] [[6], [12], [102, 103], [104], [1], [12], [106, 107], [108], [109], [110], [105, 111], [112]] 12 [(102, 64), (103, 4096), (104, 15211807202738752817960438464512), (105, 20282409603651670423947251286016), (106, 2), (107, 4096), (108, 243388915243820045087367015432192), (109, 324518553658426726783156020576256), (110, 649037107316853453566312041152512), (111, 1298074214633706907132624082305024), (112, 2636713248474717155113142667182080), (13, 5192296858534827628530496329220096)] mixed (by kernel_rfl) rfl rfl) | (apply W.draw2 (id := 17) [0, 0, 3, 7, 15, 31, 63, 127, 127, 511, 1023, 2047, 4095, 8191, 16383, 32767, 65535, 65535, 262143, 524287, 65535, 65535, 3211263, 7405567, 15794175, 32571391, 67108863, 134217727, 268435455] [[6], [12], [113, 114], [115], [116], [117], [118], [6, 119], [12, 119], [120, 121, 119], [122, 119], [123, 119], [124, 119], [125, 119], [119, 126], [127], [6, 128], [12, 128], [129, 130, 128], [131, 128], [1, 128], [12, 128], [133, 134, 128], [135, 128], [136, 128], [137, 128], [132, 138, 128], [139, 128], [128, 140]] 29 [(113, 64), (114, 4096), (115, 31153781151208965771182977975320576), (116, 41538374868278621028243970633760768), (117, 83076749736557242056487941267521536), (118, 166153499473114484112975882535043072), (119, 332306998946228968225951765070086144), (120, 664613997892457936451903530140172352), (121, 664613997892457936451903530140176384), (122, 4652297985247205555163324710981206016), (123, 5981525981032121428067131771261550592), (124, 11298437964171784919682360012382928896), (125, 21932261930451111902912816494625685504), (126, 43199909863009765869373729459111198720), (127, 85735205728127073802295555388082225152), (128, 170141183460469231731687303715884105728), (129, 340282366920938463463374607431768211520), (130, 340282366920938463463374607431768215552), (131, 2381976568446569244243622252022377480192), (132, 3062541302288446171170371466885913903104), (133, 340282366920938463463374607431768211458), (134, 340282366920938463463374607431768215552), (135, 33007389591331030955947336920881516511232), (136, 43896425332801061786775324358698099277824), (137, 87452568298681185110087274109964430344192), (138, 174564854230441431756711173612497092476928), (139, 354233943964696940465372966336470708125696), (140, 697238569821002911636454570627693065273344), (141, 1394136857275084884809445766647954362335232)] mixed (by kernel_rfl) rfl rfl) | (apply W.draw2 (id := 26) [0, 0, 3, 7, 15, 0, 0, 96, 224, 480, 1023, 2047, 4095, 8191, 16383, 32767, 65535, 131071, 262143, 524287, 1048575, 1048575, 4194303, 8388607, 16777215] [[1], [12], [215, 216], [217], [218], [1], [14], [220, 221], [222], [223], [219, 224], [225], [16, 226], [227, 226], [226, 228], [229], [18, 230], [231, 230], [230, 232], [233], [15, 234], [17, 234], [235, 236, 234], [237, 234], [234, 238]] 25 [(215, 2), (216, 4096), (217, 157968437502835780046877041525505648478342643100823666881466466304), (218, 210624583337114373395836055367340864637790190801098222508621955072), (219, 421249166674228746791672110734681729275580381602196445017243910144), (220, 2), (221, 16384), (222, 5054990000090744961500065328816180751306964579226357340206926921728), (223, 6739986666787659948666753771754907668409286105635143120275902562304), (224, 13479973333575319897333507543509815336818572211270286240551805124608), (225, 27802445000499097288250359308488994132188305185744965371138098069504), (226, 53919893334301279589334030174039261347274288845081144962207220498432), (227, 107839786668602559178668060348078522694548577690162289924414441062400), (228, 323519360005807677536004181044235568083645733070486869773243322990592), (229, 539198933343012795893340301740392613472742888450811449622072204984320), (230, 862718293348820473429344482784628181556388621521298319395315527974912), (231, 1725436586697640946858688965569256363112777243042596638790631056211968), (232, 5176309760092922840576066896707769089338331729127789916371893167849472), (233, 8627182933488204734293444827846281815563886215212983193953155279749120), (234, 13803492693581127574869511724554050904902217944340773110325048447598592), (235, 27606985387162255149739023449108101809804435888681546220650096895229952), (236, 27606985387162255149739023449108101809804435888681546220650096895328256), (237, 193248897710135786048173164143756712668631051220770823544550678266380288), (238, 248462868484460296347651211041972916288239922998133915985850872056774656), (239, 469318751581758337545563398634837730766675410107586285751051647218352128)] mixed (by kernel_rfl) rfl rfl) | (refine W.drawS (id := 24) [0, 0, 3, 7, 0, 0, 48, 112, 240, 496, 1023, 2047, 4095, 4095, 0, 24575, 65535] [[6], [12], [188, 189], [190], [1], [14], [192, 193], [194], [195], [196], [191, 197], [198], [187], [187], [], [15, 199], [200]] [(15, (15, ?_)), (14, (15, ?_))] [(15, 15), (14, 15)] mixed (by kernel_rfl) rfl ?_; rotate_left 2) | (refine W.drawS (id := 25) [0, 0, 3, 7, 0, 0, 48, 112, 240, 496, 1023, 2047, 4095, 4095, 0, 24575, 65535] [[6], [14], [202, 203], [204], [1], [12], [206, 207], [208], [209], [210], [205, 211], [212], [201], [201], [], [17, 213], [214]] [(15, (17, ?_)), (14, (17, ?_))] [(15, 17), (14, 17)] mixed (by kernel_rfl) rfl ?_; rotate_left 2) | (refine W.condA (ht := fun hb => ?_) (hf := fun hb => ?_) <;> (try simp at hb) <;> (try (exfalso; first | exact hri hb | omega))))
    apply W.loopP (σ := Nat) 241 [1, 5, 6, 10, 11, 12] (fun k => k ≤ i) (fun k => [(14, vI k)]) (fun _ => []) (fun k => i - k) (0)
    case hp => repeat (first | exact Pick.nil | apply Pick.cons rfl)
    case h0 =>
      refine ⟨by omega, ?_⟩
      exact Le.auto
    case round =>
      rintro k gk
      apply W.norm (by repeat (first | exact App.nil | apply App.cons))
      by_cases hk : k < i
      case neg =>
        obtain rfl : k = i := by omega
        repeat' (first | ((first | apply U_ | (apply Ug_; exact rfl; exact rfl) | (apply Ugq_; exact rfl; exact rfl) | apply Lex.u | (apply Lex.g; exact rfl; exact rfl) | (apply Lex.gq; exact rfl; exact rfl)); (first | exact QX.B TYok | exact QX.Len TYok | exact QX.Idx TYok | exact QX.Ext TYok); exact rfl) | refine SX.Alloc TYok (h := ?_) | refine SX.Store TYok (h := ?_) | refine SX.Box TYok (h := ?_) | refine SC ?_ | (apply S_isnil TYok; exact rfl; exact rfl; exact rfl; exact Ev.auto; intro bn hnil) | refine SG ?_ | apply LexS.nil | (apply LexS.f; exact rfl; (first | (apply FreshV.alloc TYok; exact rfl; exact rfl; exact rfl; exact rfl) | (apply FreshV.lit TYok; (repeat (first | exact EvR.nil | apply EvR.cons Ev.auto)); exact rfl; exact rfl; exact rfl; exact rfl; exact rfl; exact rfl; exact rfl; exact rfl; exact rfl) | (apply FreshV.box; exact Ev.auto; exact rfl; exact rfl; exact rfl)); exact rfl; exact rfl; exact rfl) | (apply LexS.s; exact rfl; exact rfl; (apply StoreV.mk TYok; exact Ev.auto; exact Ev.auto; exact rfl; exact rfl; exact rfl; exact rfl; exact rfl)) | ((first | apply LexS.u | (apply LexS.g; exact rfl; exact rfl) | (apply LexS.gq; exact rfl; exact rfl)); (repeat (first | (apply NB.cons; exact rfl) | exact NB.nil rfl)); (first | exact QX.B TYok | exact QX.Len TYok | exact QX.Idx TYok | exact QX.Ext TYok); exact rfl; exact rfl; exact rfl) | (apply W.draw2 (id := 10) [0, 1, 3, 3, 3, 19, 51, 123, 255, 511, 1023] [[9], [79], [8, 80], [2, 80], [1, 80], [83, 80], [84, 80], [82, 85, 80], [81, 86, 80], [87, 80], [80, 88]] 11 [(79, 512), (80, 604462909807314587353088), (81, 1208925819614629174706432), (82, 1208925819614629174706180), (83, 1208925819614629174706178), (84, 10880332376531662572355584), (85, 20551738933448695970004992), (86, 44730255325741279464128512), (87, 80998029914180154705313792), (88, 155951430730287163537096704), (89, 310693935640959697899487232)] mixed (by kernel_rfl) rfl rfl) | (apply W.draw2 (id := 16) [0, 0, 3, 7, 0, 0, 48, 112, 240, 496, 1023, 2047] [[6], [12], [102, 103], [104], [1], [12], [106, 107], [108], [109], [110], [105, 111], [112]] 12 [(102, 64), (103, 4096), (104, 15211807202738752817960438464512), (105, 20282409603651670423947251286016), (106, 2), (107, 4096), (108, 243388915243820045087367015432192), (109, 324518553658426726783156020576256), (110, 649037107316853453566312041152512), (111, 1298074214633706907132624082305024), (112, 2636713248474717155113142667182080), (13, 5192296858534827628530496329220096)] mixed (by kernel_rfl) rfl rfl) | (apply W.draw2 (id := 17) [0, 0, 3, 7, 15, 31, 63, 127, 127, 511, 1023, 2047, 4095, 8191, 16383, 32767, 65535, 65535, 262143, 524287, 65535, 65535, 3211263, 7405567, 15794175, 32571391, 67108863, 134217727, 268435455] [[6], [12], [113, 114], [115], [116], [117], [118], [6, 119], [12, 119], [120, 121, 119], [122, 119], [123, 119], [124, 119], [125, 119], [119, 126], [127], [6, 128], [12, 128], [129, 130, 128], [131, 128], [1, 128], [12, 128], [133, 134, 128], [135, 128], [136, 128], [137, 128], [132, 138, 128], [139, 128], [128, 140]] 29 [(113, 64), (114, 4096), (115, 31153781151208965771182977975320576), (116, 41538374868278621028243970633760768), (117, 83076749736557242056487941267521536), (118, 166153499473114484112975882535043072), (119, 332306998946228968225951765070086144), (120, 664613997892457936451903530140172352), (121, 664613997892457936451903530140176384), (122, 4652297985247205555163324710981206016), (123, 5981525981032121428067131771261550592), (124, 11298437964171784919682360012382928896), (125, 21932261930451111902912816494625685504), (126, 43199909863009765869373729459111198720), (127, 85735205728127073802295555388082225152), (128, 170141183460469231731687303715884105728), (129, 340282366920938463463374607431768211520), (130, 340282366920938463463374607431768215552), (131, 2381976568446569244243622252022377480192), (132, 3062541302288446171170371466885913903104), (133, 340282366920938463463374607431768211458), (134, 340282366920938463463374607431768215552), (135, 33007389591331030955947336920881516511232), (136, 43896425332801061786775324358698099277824), (137, 87452568298681185110087274109964430344192), (138, 174564854230441431756711173612497092476928), (139, 354233943964696940465372966336470708125696), (140, 697238569821002911636454570627693065273344), (141, 1394136857275084884809445766647954362335232)] mixed (by kernel_rfl) rfl rfl) | (apply W.draw2 (id := 26) [0, 0, 3, 7, 15, 0, 0, 96, 224, 480, 1023, 2047, 4095, 8191, 16383, 32767, 65535, 131071, 262143, 524287, 1048575, 1048575, 4194303, 8388607, 16777215] [[1], [12], [215, 216], [217], [218], [1], [14], [220, 221], [222], [223], [219, 224], [225], [16, 226], [227, 226], [226, 228], [229], [18, 230], [231, 230], [230, 232], [233], [15, 234], [17, 234], [235, 236, 234], [237, 234], [234, 238]] 25 [(215, 2), (216, 4096), (217, 157968437502835780046877041525505648478342643100823666881466466304), (218, 210624583337114373395836055367340864637790190801098222508621955072), (219, 421249166674228746791672110734681729275580381602196445017243910144), (220, 2), (221, 16384), (222, 5054990000090744961500065328816180751306964579226357340206926921728), (223, 6739986666787659948666753771754907668409286105635143120275902562304), (224, 13479973333575319897333507543509815336818572211270286240551805124608), (225, 27802445000499097288250359308488994132188305185744965371138098069504), (226, 53919893334301279589334030174039261347274288845081144962207220498432), (227, 107839786668602559178668060348078522694548577690162289924414441062400), (228, 323519360005807677536004181044235568083645733070486869773243322990592), (229, 539198933343012795893340301740392613472742888450811449622072204984320), (230, 862718293348820473429344482784628181556388621521298319395315527974912), (231, 1725436586697640946858688965569256363112777243042596638790631056211968), (232, 5176309760092922840576066896707769089338331729127789916371893167849472), (233, 8627182933488204734293444827846281815563886215212983193953155279749120), (234, 13803492693581127574869511724554050904902217944340773110325048447598592), (235, 27606985387162255149739023449108101809804435888681546220650096895229952), (236, 27606985387162255149739023449108101809804435888681546220650096895328256), (237, 193248897710135786048173164143756712668631051220770823544550678266380288), (238, 248462868484460296347651211041972916288239922998133915985850872056774656), (239, 469318751581758337545563398634837730766675410107586285751051647218352128)] mixed (by kernel_rfl) rfl rfl) | (refine W.drawS (id := 24) [0, 0, 3, 7, 0, 0, 48, 112, 240, 496, 1023, 2047, 4095, 4095, 0, 24575, 65535] [[6], [12], [188, 189], [190], [1], [14], [192, 193], [194], [195], [196], [191, 197], [198], [187], [187], [], [15, 199], [200]] [(15, (15, ?_)), (14, (15, ?_))] [(15, 15), (14, 15)] mixed (by kernel_rfl) rfl ?_; rotate_left 2) | (refine W.drawS (id := 25) [0, 0, 3, 7, 0, 0, 48, 112, 240, 496, 1023, 2047, 4095, 4095, 0, 24575, 65535] [[6], [14], [202, 203], [204], [1], [12], [206, 207], [208], [209], [210], [205, 211], [212], [201], [201], [], [17, 213], [214]] [(15, (17, ?_)), (14, (17, ?_))] [(15, 17), (14, 17)] mixed (by kernel_rfl) rfl ?_; rotate_left 2) | (refine W.condA (ht := fun hb => ?_) (hf := fun hb => ?_) <;> (try simp at hb) <;> (try (exfalso; omega))))
        all_goals first
          | (refine ⟨k + 1, by omega, ?_, by omega⟩; exact Le.auto)
          | trace_state
      have hkl : k < l.length := by omega
      have hLk := hL k hkl
      have ok := ol _ (nth_mem (l := L) (show k < L.length by omega))
      have ck := amt_nth ha hkl
      have bk := hbd _ (nth_mem hkl)
      rw [← hLk] at bk
      have ok1 := ofw_ok (nth l k).amt (by unfold i64B; omega)
      have oak := int_bd (n := (nth l k).amt) (by omega)
      have x1 := mul_bd (k := 37) (by omega) bi oak (by omega)
      have x2 := mul_bd (k := 37) (by omega) bk oa (by omega)
      have m1 := qmul_yes (nth L i) ((nth l k).amt : Rat) oi (bd_ok oak (by omega)) x1.2
      have m2 := qmul_yes (nth L k) ((nth l i).amt : Rat) ok (bd_ok oa (by omega)) x2.2
      have hp := hpart2 (nth l i) (nth l k)
      rw [← hLi, ← hLk] at hp
      have e1 := same_ok _ _ (bd_ok x1.1 (by omega)) (bd_ok x2.1 (by omega))
      generalize nth L i * ((nth l k).amt : Rat) = X at *
      generalize nth L k * ((nth l i).amt : Rat) = Y at *
      have hbad2 : (nth l i).rank = (nth l k).rank ∧ ¬ X = Y → False := fun h => h.2 (hp h.1)
      repeat' (first | ((first | apply U_ | (apply Ug_; exact rfl; exact rfl) | (apply Ugq_; exact rfl; exact rfl) | apply Lex.u | (apply Lex.g; exact rfl; exact rfl) | (apply Lex.gq; exact rfl; exact rfl)); (first | exact QX.B TYok | exact QX.Len TYok | exact QX.Idx TYok | exact QX.Ext TYok | exact QCd (oi1) | exact QCd (ok1) | exact QCd (m1) | exact QCd (m2) | exact QCd (e1)); exact rfl) | refine SX.Alloc TYok (h := ?_) | refine SX.Store TYok (h := ?_) | refine SX.Box TYok (h := ?_) | refine SC ?_ | (apply S_isnil TYok; exact rfl; exact rfl; exact rfl; exact Ev.auto; intro bn hnil) | refine SG ?_ | apply LexS.nil | (apply LexS.f; exact rfl; (first | (apply FreshV.alloc TYok; exact rfl; exact rfl; exact rfl; exact rfl) | (apply FreshV.lit TYok; (repeat (first | exact EvR.nil | apply EvR.cons Ev.auto)); exact rfl; exact rfl; exact rfl; exact rfl; exact rfl; exact rfl; exact rfl; exact rfl; exact rfl) | (apply FreshV.box; exact Ev.auto; exact rfl; exact rfl; exact rfl)); exact rfl; exact rfl; exact rfl) | (apply LexS.s; exact rfl; exact rfl; (apply StoreV.mk TYok; exact Ev.auto; exact Ev.auto; exact rfl; exact rfl; exact rfl; exact rfl; exact rfl)) | ((first | apply LexS.u | (apply LexS.g; exact rfl; exact rfl) | (apply LexS.gq; exact rfl; exact rfl)); (repeat (first | (apply NB.cons; exact rfl) | exact NB.nil rfl)); (first | exact QX.B TYok | exact QX.Len TYok | exact QX.Idx TYok | exact QX.Ext TYok | exact QCd (oi1) | exact QCd (ok1) | exact QCd (m1) | exact QCd (m2) | exact QCd (e1)); exact rfl; exact rfl; exact rfl) | (apply W.draw2 (id := 10) [0, 1, 3, 3, 3, 19, 51, 123, 255, 511, 1023] [[9], [79], [8, 80], [2, 80], [1, 80], [83, 80], [84, 80], [82, 85, 80], [81, 86, 80], [87, 80], [80, 88]] 11 [(79, 512), (80, 604462909807314587353088), (81, 1208925819614629174706432), (82, 1208925819614629174706180), (83, 1208925819614629174706178), (84, 10880332376531662572355584), (85, 20551738933448695970004992), (86, 44730255325741279464128512), (87, 80998029914180154705313792), (88, 155951430730287163537096704), (89, 310693935640959697899487232)] mixed (by kernel_rfl) rfl rfl) | (apply W.draw2 (id := 16) [0, 0, 3, 7, 0, 0, 48, 112, 240, 496, 1023, 2047] [[6], [12], [102, 103], [104], [1], [12], [106, 107], [108], [109], [110], [105, 111], [112]] 12 [(102, 64), (103, 4096), (104, 15211807202738752817960438464512), (105, 20282409603651670423947251286016), (106, 2), (107, 4096), (108, 243388915243820045087367015432192), (109, 324518553658426726783156020576256), (110, 649037107316853453566312041152512), (111, 1298074214633706907132624082305024), (112, 2636713248474717155113142667182080), (13, 5192296858534827628530496329220096)] mixed (by kernel_rfl) rfl rfl) | (apply W.draw2 (id := 17) [0, 0, 3, 7, 15, 31, 63, 127, 127, 511, 1023, 2047, 4095, 8191, 16383, 32767, 65535, 65535, 262143, 524287, 65535, 65535, 3211263, 7405567, 15794175, 32571391, 67108863, 134217727, 268435455] [[6], [12], [113, 114], [115], [116], [117], [118], [6, 119], [12, 119], [120, 121, 119], [122, 119], [123, 119], [124, 119], [125, 119], [119, 126], [127], [6, 128], [12, 128], [129, 130, 128], [131, 128], [1, 128], [12, 128], [133, 134, 128], [135, 128], [136, 128], [137, 128], [132, 138, 128], [139, 128], [128, 140]] 29 [(113, 64), (114, 4096), (115, 31153781151208965771182977975320576), (116, 41538374868278621028243970633760768), (117, 83076749736557242056487941267521536), (118, 166153499473114484112975882535043072), (119, 332306998946228968225951765070086144), (120, 664613997892457936451903530140172352), (121, 664613997892457936451903530140176384), (122, 4652297985247205555163324710981206016), (123, 5981525981032121428067131771261550592), (124, 11298437964171784919682360012382928896), (125, 21932261930451111902912816494625685504), (126, 43199909863009765869373729459111198720), (127, 85735205728127073802295555388082225152), (128, 170141183460469231731687303715884105728), (129, 340282366920938463463374607431768211520), (130, 340282366920938463463374607431768215552), (131, 2381976568446569244243622252022377480192), (132, 3062541302288446171170371466885913903104), (133, 340282366920938463463374607431768211458), (134, 340282366920938463463374607431768215552), (135, 33007389591331030955947336920881516511232), (136, 43896425332801061786775324358698099277824), (137, 87452568298681185110087274109964430344192), (138, 174564854230441431756711173612497092476928), (139, 354233943964696940465372966336470708125696), (140, 697238569821002911636454570627693065273344), (141, 1394136857275084884809445766647954362335232)] mixed (by kernel_rfl) rfl rfl) | (apply W.draw2 (id := 26) [0, 0, 3, 7, 15, 0, 0, 96, 224, 480, 1023, 2047, 4095, 8191, 16383, 32767, 65535, 131071, 262143, 524287, 1048575, 1048575, 4194303, 8388607, 16777215] [[1], [12], [215, 216], [217], [218], [1], [14], [220, 221], [222], [223], [219, 224], [225], [16, 226], [227, 226], [226, 228], [229], [18, 230], [231, 230], [230, 232], [233], [15, 234], [17, 234], [235, 236, 234], [237, 234], [234, 238]] 25 [(215, 2), (216, 4096), (217, 157968437502835780046877041525505648478342643100823666881466466304), (218, 210624583337114373395836055367340864637790190801098222508621955072), (219, 421249166674228746791672110734681729275580381602196445017243910144), (220, 2), (221, 16384), (222, 5054990000090744961500065328816180751306964579226357340206926921728), (223, 6739986666787659948666753771754907668409286105635143120275902562304), (224, 13479973333575319897333507543509815336818572211270286240551805124608), (225, 27802445000499097288250359308488994132188305185744965371138098069504), (226, 53919893334301279589334030174039261347274288845081144962207220498432), (227, 107839786668602559178668060348078522694548577690162289924414441062400), (228, 323519360005807677536004181044235568083645733070486869773243322990592), (229, 539198933343012795893340301740392613472742888450811449622072204984320), (230, 862718293348820473429344482784628181556388621521298319395315527974912), (231, 1725436586697640946858688965569256363112777243042596638790631056211968), (232, 5176309760092922840576066896707769089338331729127789916371893167849472), (233, 8627182933488204734293444827846281815563886215212983193953155279749120), (234, 13803492693581127574869511724554050904902217944340773110325048447598592), (235, 27606985387162255149739023449108101809804435888681546220650096895229952), (236, 27606985387162255149739023449108101809804435888681546220650096895328256), (237, 193248897710135786048173164143756712668631051220770823544550678266380288), (238, 248462868484460296347651211041972916288239922998133915985850872056774656), (239, 469318751581758337545563398634837730766675410107586285751051647218352128)] mixed (by kernel_rfl) rfl rfl) | (refine W.drawS (id := 24) [0, 0, 3, 7, 0, 0, 48, 112, 240, 496, 1023, 2047, 4095, 4095, 0, 24575, 65535] [[6], [12], [188, 189], [190], [1], [14], [192, 193], [194], [195], [196], [191, 197], [198], [187], [187], [], [15, 199], [200]] [(15, (15, ?_)), (14, (15, ?_))] [(15, 15), (14, 15)] mixed (by kernel_rfl) rfl ?_; rotate_left 2) | (refine W.drawS (id := 25) [0, 0, 3, 7, 0, 0, 48, 112, 240, 496, 1023, 2047, 4095, 4095, 0, 24575, 65535] [[6], [14], [202, 203], [204], [1], [12], [206, 207], [208], [209], [210], [205, 211], [212], [201], [201], [], [17, 213], [214]] [(15, (17, ?_)), (14, (17, ?_))] [(15, 17), (14, 17)] mixed (by kernel_rfl) rfl ?_; rotate_left 2) | (refine W.condA (ht := fun hb => ?_) (hf := fun hb => ?_) <;> (try simp at hb) <;> (try (exfalso; first | exact hbad2 hb | omega))))
      all_goals first
        | (refine ⟨k + 1, by omega, ?_, by omega⟩; exact Le.auto)
        | trace_state
end
end Go.Proofs.Ytndfnihglpconaa
end
