/-
  RankMore: the row: what came in is read, the contract of the function gives true, and what came in stands.
-/
import Derived.Test.YtndfnihglpconaaMS09
import Derived.Test.YtndfnihglpconaaMS02
import Derived.Test.YtndfnihglpconaaMS07
import Derived.Test.YtndfnihglpconaaMS10
import Derived.Test.YtndfnihglpconaaMS05
import Derived.Test.YtndfnihglpconaaMS03
import Derived.ProofKit
import Derived.OpenShut
import Derived.Carry
section
set_option linter.unusedVariables false
set_option linter.unusedSimpArgs false
set_option maxHeartbeats 8000000
namespace Go.Proofs.Ytndfnihglpconaa
open Lf Go
attribute [local irreducible] PureOp EffOp Ev RG W Then InBlock Lf.Fin nth App InitE Pick EvL EvD EvP EvR ResL Lf.Lex SubR SubBR FinO FinM ResM ResD FinS val pw digs trimL
section
open RankLaw
structure Fq where
  s : Int
  d : List Int
  s' : Int
  d' : List Int
instance : Inhabited Fq := ⟨⟨0, [], 0, []⟩⟩
def lst (l : List Cl) (R : List Rat) : Nat → Int
  | 0 => 10
  | j + 1 => if nth R j < ((nth l j).amt : Rat) then (if (nth l j).rank ≤ lst l R j then (nth l j).rank else lst l R j) else lst l R j
theorem lst_le (l : List Cl) (R : List Rat) : ∀ j, lst l R j ≤ 10
  | 0 => Int.le_refl _
  | j + 1 => by
    have := lst_le l R j
    rw [lst]
    repeat' split
    all_goals omega
attribute [local irreducible] sgn mag gcdZ quoZ remZ fullZ fullE
theorem cmpR_lt (a b : Rat) : (cmpR a b < 0) ↔ a < b := by
  rcases cmpR_cases a b with h | h | h
  · exact ⟨fun _ => h.2, fun _ => by omega⟩
  · exact ⟨fun _ => by omega, fun k => by have := h.2; grind⟩
  · exact ⟨fun _ => by omega, fun k => by have := h.2; grind⟩
theorem pshort_ok (l : List Cl) (R : List Rat) (hc : rightC l = true) (hR : R.length = l.length) (ho : ∀ r ∈ R, okF r) : ACalls Try.prog 11 [slC l, slQ R] (.tup [cI (if lst l R l.length = 10 then 0 else lst l R l.length), cB (decide (lst l R l.length ≠ 10))]) := by
  obtain ⟨hok, ha, hl⟩ := rightC_yes hc
  have p1 := pright_ok l (by omega)
  rw [hc] at p1
  refine ACalls.of_W (qs := [cI (if lst l R l.length = 10 then 0 else lst l R l.length), cB (decide (lst l R l.length ≠ 10))]) [4, 5] 49 Try.func11 (by kernel_rfl) rfl rfl rfl fun G => ?_
  refine W.initA (hw := ?_)
  repeat' (first | ((first | apply U_ | (apply Ug_; exact rfl; exact rfl) | (apply Ugq_; exact rfl; exact rfl) | apply Lex.u | (apply Lex.g; exact rfl; exact rfl) | (apply Lex.gq; exact rfl; exact rfl)); (first | exact QX.B TYok | exact QX.Num TYok | exact QX.Len TYok | exact QX.Idx TYok | exact QCd (p1)); exact rfl) | refine SX.Alloc TYok (h := ?_) | refine SX.Store TYok (h := ?_) | refine SC ?_ | (apply S_isnil TYok; exact rfl; exact rfl; exact rfl; exact Ev.auto; intro bn hnil) | refine SG ?_ | (apply W.draw2 (id := 9) [0, 0, 3, 7, 0, 16, 48, 127, 255] [[1], [7], [32, 33], [34], [8], [36], [37], [35, 38], [39]] 9 [(32, 2), (33, 128), (34, 12884901888), (35, 17179869184), (36, 256), (37, 68719476736), (38, 137438953472), (39, 309237645312), (40, 549755813888)] mixed (by kernel_rfl) rfl rfl) | (refine W.condA (ht := fun hb => ?_) (hf := fun hb => ?_) <;> (try simp at hb) <;> (try (exfalso; omega))))
  apply W.loopP (σ := Nat) 49 [1, 19, 20] (fun z => z ≤ l.length) (fun z => [(21, vI z), (6, vI (lst l R z))]) (fun _ => []) (fun z => l.length - z) (0)
  case hp => repeat (first | exact Pick.nil | apply Pick.cons rfl)
  case h0 =>
    refine ⟨by omega, ?_⟩
    exact Le.auto
  case round =>
    rintro j g1
    apply W.norm (by repeat (first | exact App.nil | apply App.cons))
    by_cases hj : j < l.length
    · have c := amt_nth ha hj
      have or := ho _ (nth_mem (l := R) (show j < R.length by omega))
      have r1 := fright_yes (nth R j) or
      have w1 := whole_ok (nth l j).amt (by unfold i64B; omega)
      have f1 := fcmp_ok (nth R j) ((nth l j).amt : Rat) or (okF_int (by unfold i64B; omega))
      have hlt := cmpR_lt (nth R j) ((nth l j).amt : Rat)
      have e1 : lst l R (j + 1) = if cmpR (nth R j) ((nth l j).amt : Rat) < 0 then min (lst l R j) (nth l j).rank else lst l R j := by
        rw [lst]
        by_cases h : nth R j < ((nth l j).amt : Rat)
        · rw [if_pos h, if_pos (hlt.2 h)]; split <;> omega
        · rw [if_neg h, if_neg fun k => h (hlt.1 k)]
      clear hlt
      generalize lst l R j = m at *
      generalize cmpR (nth R j) ((nth l j).amt : Rat) = C at *
      repeat' (first | ((first | apply U_ | (apply Ug_; exact rfl; exact rfl) | (apply Ugq_; exact rfl; exact rfl) | apply Lex.u | (apply Lex.g; exact rfl; exact rfl) | (apply Lex.gq; exact rfl; exact rfl)); (first | exact QX.B TYok | exact QX.Num TYok | exact QX.Len TYok | exact QX.Idx TYok | exact QCd (r1) | exact QCd (w1) | exact QCd (f1)); exact rfl) | refine SX.Alloc TYok (h := ?_) | refine SX.Store TYok (h := ?_) | refine SC ?_ | (apply S_isnil TYok; exact rfl; exact rfl; exact rfl; exact Ev.auto; intro bn hnil) | refine SG ?_ | (apply W.draw2 (id := 9) [0, 0, 3, 7, 0, 16, 48, 127, 255] [[1], [7], [32, 33], [34], [8], [36], [37], [35, 38], [39]] 9 [(32, 2), (33, 128), (34, 12884901888), (35, 17179869184), (36, 256), (37, 68719476736), (38, 137438953472), (39, 309237645312), (40, 549755813888)] mixed (by kernel_rfl) rfl rfl) | (refine W.condA (ht := fun hb => ?_) (hf := fun hb => ?_) <;> (try simp at hb) <;> (try (exfalso; omega))))
      all_goals first
        | (refine ⟨j + 1, by omega, ?_, by omega⟩; (try dsimp only); rw [e1, if_neg (by omega)]; exact Le.auto)
        | (refine ⟨j + 1, by omega, ?_, by omega⟩; (try dsimp only); rw [e1, if_pos (by omega)]; exact Le.auto)
        | trace_state
    · obtain rfl : j = l.length := by omega
      have hle := lst_le l R l.length
      generalize lst l R l.length = m at *
      by_cases h10 : m = 10
      · subst h10
        rw [if_pos rfl, decide_eq_false (by simp)]
        repeat' (first | ((first | apply U_ | (apply Ug_; exact rfl; exact rfl) | (apply Ugq_; exact rfl; exact rfl) | apply Lex.u | (apply Lex.g; exact rfl; exact rfl) | (apply Lex.gq; exact rfl; exact rfl)); (first | exact QX.B TYok | exact QX.Num TYok | exact QX.Len TYok | exact QX.Idx TYok); exact rfl) | refine SX.Alloc TYok (h := ?_) | refine SX.Store TYok (h := ?_) | refine SC ?_ | (apply S_isnil TYok; exact rfl; exact rfl; exact rfl; exact Ev.auto; intro bn hnil) | refine SG ?_ | (apply W.draw2 (id := 9) [0, 0, 3, 7, 0, 16, 48, 127, 255] [[1], [7], [32, 33], [34], [8], [36], [37], [35, 38], [39]] 9 [(32, 2), (33, 128), (34, 12884901888), (35, 17179869184), (36, 256), (37, 68719476736), (38, 137438953472), (39, 309237645312), (40, 549755813888)] mixed (by kernel_rfl) rfl rfl) | (refine W.condA (ht := fun hb => ?_) (hf := fun hb => ?_) <;> (try simp at hb) <;> (try (exfalso; omega))))
        all_goals exact Fin.ret ResL.auto
      · rw [if_neg h10, decide_eq_true h10]
        repeat' (first | ((first | apply U_ | (apply Ug_; exact rfl; exact rfl) | (apply Ugq_; exact rfl; exact rfl) | apply Lex.u | (apply Lex.g; exact rfl; exact rfl) | (apply Lex.gq; exact rfl; exact rfl)); (first | exact QX.B TYok | exact QX.Num TYok | exact QX.Len TYok | exact QX.Idx TYok); exact rfl) | refine SX.Alloc TYok (h := ?_) | refine SX.Store TYok (h := ?_) | refine SC ?_ | (apply S_isnil TYok; exact rfl; exact rfl; exact rfl; exact Ev.auto; intro bn hnil) | refine SG ?_ | (apply W.draw2 (id := 9) [0, 0, 3, 7, 0, 16, 48, 127, 255] [[1], [7], [32, 33], [34], [8], [36], [37], [35, 38], [39]] 9 [(32, 2), (33, 128), (34, 12884901888), (35, 17179869184), (36, 256), (37, 68719476736), (38, 137438953472), (39, 309237645312), (40, 549755813888)] mixed (by kernel_rfl) rfl rfl) | (refine W.condA (ht := fun hb => ?_) (hf := fun hb => ?_) <;> (try simp at hb) <;> (try (exfalso; omega))))
        all_goals exact Fin.ret ResL.auto
theorem sumR_snoc (l : List Rat) (x : Rat) : sumR (l ++ [x]) = sumR l + x := by
  induction l with
  | nil => simp only [List.nil_append, sumR]; grind
  | cons y l ih => rw [List.cons_append, sumR, sumR, ih]; grind
theorem least_ex {p : Nat → Prop} : ∀ n, p n → ∃ j, p j ∧ ∀ i, i < j → ¬ p i := by
  intro n
  induction n using Nat.strongRecOn with
  | ind n ih =>
    intro h
    by_cases k : ∃ i, i < n ∧ p i
    · obtain ⟨i, h1, h2⟩ := k
      exact ih i h1 h2
    · exact ⟨n, h, fun i hi hp => k ⟨i, hi, hp⟩⟩
theorem addOk_okF {a b : Rat} (h : addOk a b) : okF (a + b) := by
  rw [rat_add]
  exact okF_of h.1.2.2 h.2 (mul_ne (den_ne a) (den_ne b))
theorem sum_walk (R : List Rat) (ho : ∀ r ∈ R, okF r) (hR : R.length ≤ 9223372036854775807) (n : Nat) (hn : n ≤ R.length) (hu : ∀ j, j < n → addOk (sumR (R.take j)) (nth R j)) (b : Bool) (hb : (b = true ∧ n = R.length) ∨ (b = false ∧ n < R.length ∧ ¬ addOk (sumR (R.take n)) (nth R n))) :
    ACalls Try.prog 16 [slQ R] (.tup [zF (sumR (R.take n)), cB b]) ∧ okF (sumR (R.take n)) := by
  have e0 : ∀ j, j < R.length → sumR (R.take (j + 1)) = sumR (R.take j) + nth R j := fun j hj => by rw [take_nth hj, sumR_snoc]
  have z0 : sumR (R.take 0) = ((0 : Int) : Rat) := by rw [List.take_zero]; rfl
  have okj : ∀ j, j ≤ n → okF (sumR (R.take j)) := fun j => by
    induction j with
    | zero => intro _; rw [z0]; exact okF_int (by unfold i64B; omega)
    | succ j ih =>
      intro h
      rw [e0 j (by omega)]
      exact addOk_okF (hu j (by omega))
  refine ⟨?_, okj n (Nat.le_refl _)⟩
  have w0 := qwhole_ok 0 (by unfold i64B; omega)
  rw [← z0] at w0
  refine ACalls.of_M TYok (qs := [zF (sumR (R.take n)), cB b]) [.cell 2 26, .tmp 3] 29 Try.func16 (by kernel_rfl) rfl rfl rfl fun G => ?_
  refine W.initA (hw := ?_)
  repeat' (first | ((first | apply U_); (first | exact QX.B TYok | exact QX.Len TYok | exact QX.Idx TYok | exact QX.Ext TYok | exact QCd (w0)); exact rfl) | refine SX.Alloc TYok (h := ?_) | refine SX.Store TYok (h := ?_) | refine SC ?_ | (refine W.drawA (id := 5) (L := [false, false, false, false, false, false, false, false, false, false, false, false]) mixed rfl ?_) | exact RAll.nil | (refine RAll.cons rfl ?_ ?_) | (refine RA.step (L := [false, false, false, false, false, false, false, false, false, false, false, false]) (i := 0) (is := [1, 2, 9]) (by kernel_rfl) ?_) | (refine RA.step (L := [false, false, false, false, false, false, false, false, false, true, false, false]) (i := 0) (is := [1, 2]) (by kernel_rfl) ?_) | (refine RA.step (L := [false, false, true, false, false, false, false, false, false, true, false, false]) (i := 0) (is := [1]) (by kernel_rfl) ?_) | (refine RA.step (L := [false, true, true, false, false, false, false, false, false, true, false, false]) (i := 0) (is := [3]) (by kernel_rfl) ?_) | (refine RA.step (L := [false, true, true, true, false, false, false, false, false, true, false, false]) (i := 0) (is := [4]) (by kernel_rfl) ?_) | (refine RA.step (L := [false, true, true, true, true, false, false, false, false, true, false, false]) (i := 0) (is := []) (by kernel_rfl) ?_) | (refine RA.step (L := [true, true, true, true, true, false, false, false, false, true, false, false]) (i := 5) (is := []) (by kernel_rfl) ?_) | (refine RA.step (L := [true, true, true, true, true, true, false, false, false, true, false, false]) (i := 6) (is := []) (by kernel_rfl) ?_) | (refine RA.step (L := [true, true, true, true, true, true, true, false, false, true, false, false]) (i := 7) (is := [8]) (by kernel_rfl) ?_) | (refine RA.step (L := [true, true, true, true, true, true, true, false, true, true, false, false]) (i := 7) (is := []) (by kernel_rfl) ?_) | (refine RA.step (L := [true, true, true, true, true, true, true, true, true, true, false, false]) (i := 10) (is := []) (by kernel_rfl) ?_) | (refine RA.step (L := [true, true, true, true, true, true, true, true, true, true, true, false]) (i := 11) (is := []) (by kernel_rfl) ?_) | (refine RA.done (L := [true, true, true, true, true, true, true, true, true, true, true, true]) (by kernel_rfl) ?_) | (refine RA.step (L := [true, true, true, true, true, true, true, true, false, true, false, false]) (i := 8) (is := [10]) (by kernel_rfl) ?_) | (refine RA.step (L := [true, true, true, true, true, true, true, true, false, true, true, false]) (i := 8) (is := []) (by kernel_rfl) ?_) | (refine RA.step (L := [true, true, true, true, false, false, false, false, false, true, false, false]) (i := 4) (is := []) (by kernel_rfl) ?_) | (refine RA.step (L := [true, true, true, false, false, false, false, false, false, true, false, false]) (i := 3) (is := []) (by kernel_rfl) ?_) | (refine RA.step (L := [true, false, true, false, false, false, false, false, false, true, false, false]) (i := 1) (is := []) (by kernel_rfl) ?_) | (refine RA.step (L := [false, true, false, false, false, false, false, false, false, true, false, false]) (i := 0) (is := [2]) (by kernel_rfl) ?_) | (refine RA.step (L := [true, true, false, false, false, false, false, false, false, true, false, false]) (i := 2) (is := []) (by kernel_rfl) ?_) | (refine RA.step (L := [true, false, false, false, false, false, false, false, false, true, false, false]) (i := 1) (is := [2]) (by kernel_rfl) ?_) | (refine RA.step (L := [false, false, true, false, false, false, false, false, false, false, false, false]) (i := 0) (is := [1, 9]) (by kernel_rfl) ?_) | (refine RA.step (L := [false, true, true, false, false, false, false, false, false, false, false, false]) (i := 0) (is := [3, 9]) (by kernel_rfl) ?_) | (refine RA.step (L := [false, true, true, true, false, false, false, false, false, false, false, false]) (i := 0) (is := [4, 9]) (by kernel_rfl) ?_) | (refine RA.step (L := [false, true, true, true, true, false, false, false, false, false, false, false]) (i := 0) (is := [9]) (by kernel_rfl) ?_) | (refine RA.step (L := [true, true, true, true, true, false, false, false, false, false, false, false]) (i := 5) (is := [9]) (by kernel_rfl) ?_) | (refine RA.step (L := [true, true, true, true, true, true, false, false, false, false, false, false]) (i := 6) (is := [9]) (by kernel_rfl) ?_) | (refine RA.step (L := [true, true, true, true, true, true, true, false, false, false, false, false]) (i := 7) (is := [8, 9]) (by kernel_rfl) ?_) | (refine RA.step (L := [true, true, true, true, true, true, true, false, true, false, false, false]) (i := 7) (is := [9]) (by kernel_rfl) ?_) | (refine RA.step (L := [true, true, true, true, true, true, true, true, true, false, false, false]) (i := 9) (is := []) (by kernel_rfl) ?_) | (refine RA.step (L := [true, true, true, true, true, true, true, true, false, false, false, false]) (i := 8) (is := [9]) (by kernel_rfl) ?_) | (refine RA.step (L := [true, true, true, true, false, false, false, false, false, false, false, false]) (i := 4) (is := [9]) (by kernel_rfl) ?_) | (refine RA.step (L := [true, true, true, false, false, false, false, false, false, false, false, false]) (i := 3) (is := [9]) (by kernel_rfl) ?_) | (refine RA.step (L := [true, false, true, false, false, false, false, false, false, false, false, false]) (i := 1) (is := [9]) (by kernel_rfl) ?_) | (refine RA.step (L := [false, true, false, false, false, false, false, false, false, false, false, false]) (i := 0) (is := [2, 9]) (by kernel_rfl) ?_) | (refine RA.step (L := [true, true, false, false, false, false, false, false, false, false, false, false]) (i := 2) (is := [9]) (by kernel_rfl) ?_) | (refine RA.step (L := [true, false, false, false, false, false, false, false, false, false, false, false]) (i := 1) (is := [2, 9]) (by kernel_rfl) ?_) | (refine W.condA (ht := fun hb => ?_) (hf := fun hb => ?_) <;> (try simp at hb) <;> (try (exfalso; omega))))
  apply W.loopP (σ := Nat) 29 [0, 2, 4] (fun j => j ≤ n) (fun j => [(5, vI j)]) (fun j => [(2, ⟨26, 4, [[.int .i64 0, .slnil, .int .i64 0, .slnil]]⟩), (4, ⟨26, 4, [encQ (sumR (R.take j))]⟩)]) (fun j => n - j) (0)
  case hp => repeat (first | exact Pick.nil | apply Pick.cons rfl)
  case h0 =>
    refine ⟨by omega, ?_⟩
    exact Le.auto
  case round =>
    rintro j gj
    apply W.norm (by repeat (first | exact App.nil | apply App.cons))
    by_cases hj : j < n
    · have hx := hu j hj
      have or := ho _ (nth_mem (l := R) (show j < R.length by omega))
      have a1 := qadd_yes _ (nth R j) (okj j gj) or hx
      rw [← e0 j (by omega)] at a1
      generalize sumR (R.take j) = A at *
      generalize hB : sumR (R.take (j + 1)) = B at *
      repeat' (first | ((first | apply U_); (first | exact QX.B TYok | exact QX.Len TYok | exact QX.Idx TYok | exact QX.Ext TYok | exact QCd (a1)); exact rfl) | refine SX.Alloc TYok (h := ?_) | refine SX.Store TYok (h := ?_) | refine SC ?_ | apply LexS.nil | (apply LexS.f; exact rfl; (first | (apply FreshV.alloc TYok; exact rfl; exact rfl; exact rfl; exact rfl) | (apply FreshV.lit TYok; (repeat (first | exact EvR.nil | apply EvR.cons Ev.auto)); exact rfl; exact rfl; exact rfl; exact rfl; exact rfl; exact rfl; exact rfl; exact rfl; exact rfl) | (apply FreshV.box; exact Ev.auto; exact rfl; exact rfl; exact rfl)); exact rfl; exact rfl; exact rfl) | (apply LexS.s; exact rfl; exact rfl; (apply StoreV.mk TYok; exact Ev.auto; exact Ev.auto; exact rfl; exact rfl; exact rfl; exact rfl; exact rfl)) | ((first | apply LexS.u | (apply LexS.g; exact rfl; exact rfl) | (apply LexS.gq; exact rfl; exact rfl)); (repeat (first | (apply NB.cons; exact rfl) | exact NB.nil rfl)); (first | exact QX.B TYok | exact QX.Len TYok | exact QX.Idx TYok | exact QX.Ext TYok | exact QCd (a1)); exact rfl; exact rfl; exact rfl) | (refine W.drawS (id := 5) [0, 0, 0, 6, 14, 31, 63, 127, 127, 0, 767, 2047] [[4], [0], [5], [17, 18], [19], [16, 20], [21], [15], [15], [], [6, 22], [23]] [(10, (6, ?_)), (9, (6, ?_))] [(10, 6), (9, 6)] mixed (by kernel_rfl) rfl ?_; rotate_left 2) | (refine W.condA (ht := fun hb => ?_) (hf := fun hb => ?_) <;> (try simp at hb) <;> (try (exfalso; omega))))
      all_goals first
        | (refine ⟨j + 1, by omega, ?_, by omega⟩; (try dsimp only); rw [hB]; exact Le.auto)
        | trace_state
    · obtain rfl : j = n := by omega
      rcases hb with ⟨rfl, h2⟩ | ⟨rfl, h2, h3⟩
      · repeat' (first | ((first | apply U_); (first | exact QX.B TYok | exact QX.Len TYok | exact QX.Idx TYok | exact QX.Ext TYok); exact rfl) | refine SX.Alloc TYok (h := ?_) | refine SX.Store TYok (h := ?_) | refine SC ?_ | (refine W.drawA (id := 5) (L := [false, false, false, false, false, false, false, false, false, false, false, false]) mixed rfl ?_) | exact RAll.nil | (refine RAll.cons rfl ?_ ?_) | (refine RA.step (L := [false, false, false, false, false, false, false, false, false, false, false, false]) (i := 0) (is := [1, 2, 9]) (by kernel_rfl) ?_) | (refine RA.step (L := [false, false, false, false, false, false, false, false, false, true, false, false]) (i := 0) (is := [1, 2]) (by kernel_rfl) ?_) | (refine RA.step (L := [false, false, true, false, false, false, false, false, false, true, false, false]) (i := 0) (is := [1]) (by kernel_rfl) ?_) | (refine RA.step (L := [false, true, true, false, false, false, false, false, false, true, false, false]) (i := 0) (is := [3]) (by kernel_rfl) ?_) | (refine RA.step (L := [false, true, true, true, false, false, false, false, false, true, false, false]) (i := 0) (is := [4]) (by kernel_rfl) ?_) | (refine RA.step (L := [false, true, true, true, true, false, false, false, false, true, false, false]) (i := 0) (is := []) (by kernel_rfl) ?_) | (refine RA.step (L := [true, true, true, true, true, false, false, false, false, true, false, false]) (i := 5) (is := []) (by kernel_rfl) ?_) | (refine RA.step (L := [true, true, true, true, true, true, false, false, false, true, false, false]) (i := 6) (is := []) (by kernel_rfl) ?_) | (refine RA.step (L := [true, true, true, true, true, true, true, false, false, true, false, false]) (i := 7) (is := [8]) (by kernel_rfl) ?_) | (refine RA.step (L := [true, true, true, true, true, true, true, false, true, true, false, false]) (i := 7) (is := []) (by kernel_rfl) ?_) | (refine RA.step (L := [true, true, true, true, true, true, true, true, true, true, false, false]) (i := 10) (is := []) (by kernel_rfl) ?_) | (refine RA.step (L := [true, true, true, true, true, true, true, true, true, true, true, false]) (i := 11) (is := []) (by kernel_rfl) ?_) | (refine RA.done (L := [true, true, true, true, true, true, true, true, true, true, true, true]) (by kernel_rfl) ?_) | (refine RA.step (L := [true, true, true, true, true, true, true, true, false, true, false, false]) (i := 8) (is := [10]) (by kernel_rfl) ?_) | (refine RA.step (L := [true, true, true, true, true, true, true, true, false, true, true, false]) (i := 8) (is := []) (by kernel_rfl) ?_) | (refine RA.step (L := [true, true, true, true, false, false, false, false, false, true, false, false]) (i := 4) (is := []) (by kernel_rfl) ?_) | (refine RA.step (L := [true, true, true, false, false, false, false, false, false, true, false, false]) (i := 3) (is := []) (by kernel_rfl) ?_) | (refine RA.step (L := [true, false, true, false, false, false, false, false, false, true, false, false]) (i := 1) (is := []) (by kernel_rfl) ?_) | (refine RA.step (L := [false, true, false, false, false, false, false, false, false, true, false, false]) (i := 0) (is := [2]) (by kernel_rfl) ?_) | (refine RA.step (L := [true, true, false, false, false, false, false, false, false, true, false, false]) (i := 2) (is := []) (by kernel_rfl) ?_) | (refine RA.step (L := [true, false, false, false, false, false, false, false, false, true, false, false]) (i := 1) (is := [2]) (by kernel_rfl) ?_) | (refine RA.step (L := [false, false, true, false, false, false, false, false, false, false, false, false]) (i := 0) (is := [1, 9]) (by kernel_rfl) ?_) | (refine RA.step (L := [false, true, true, false, false, false, false, false, false, false, false, false]) (i := 0) (is := [3, 9]) (by kernel_rfl) ?_) | (refine RA.step (L := [false, true, true, true, false, false, false, false, false, false, false, false]) (i := 0) (is := [4, 9]) (by kernel_rfl) ?_) | (refine RA.step (L := [false, true, true, true, true, false, false, false, false, false, false, false]) (i := 0) (is := [9]) (by kernel_rfl) ?_) | (refine RA.step (L := [true, true, true, true, true, false, false, false, false, false, false, false]) (i := 5) (is := [9]) (by kernel_rfl) ?_) | (refine RA.step (L := [true, true, true, true, true, true, false, false, false, false, false, false]) (i := 6) (is := [9]) (by kernel_rfl) ?_) | (refine RA.step (L := [true, true, true, true, true, true, true, false, false, false, false, false]) (i := 7) (is := [8, 9]) (by kernel_rfl) ?_) | (refine RA.step (L := [true, true, true, true, true, true, true, false, true, false, false, false]) (i := 7) (is := [9]) (by kernel_rfl) ?_) | (refine RA.step (L := [true, true, true, true, true, true, true, true, true, false, false, false]) (i := 9) (is := []) (by kernel_rfl) ?_) | (refine RA.step (L := [true, true, true, true, true, true, true, true, false, false, false, false]) (i := 8) (is := [9]) (by kernel_rfl) ?_) | (refine RA.step (L := [true, true, true, true, false, false, false, false, false, false, false, false]) (i := 4) (is := [9]) (by kernel_rfl) ?_) | (refine RA.step (L := [true, true, true, false, false, false, false, false, false, false, false, false]) (i := 3) (is := [9]) (by kernel_rfl) ?_) | (refine RA.step (L := [true, false, true, false, false, false, false, false, false, false, false, false]) (i := 1) (is := [9]) (by kernel_rfl) ?_) | (refine RA.step (L := [false, true, false, false, false, false, false, false, false, false, false, false]) (i := 0) (is := [2, 9]) (by kernel_rfl) ?_) | (refine RA.step (L := [true, true, false, false, false, false, false, false, false, false, false, false]) (i := 2) (is := [9]) (by kernel_rfl) ?_) | (refine RA.step (L := [true, false, false, false, false, false, false, false, false, false, false, false]) (i := 1) (is := [2, 9]) (by kernel_rfl) ?_) | (refine W.condA (ht := fun hb => ?_) (hf := fun hb => ?_) <;> (try simp at hb) <;> (try (exfalso; omega))))
        all_goals first
          | exact FinM.ret ResM.auto
          | trace_state
      · have or := ho _ (nth_mem (l := R) (show j < R.length by omega))
        have a1 := qadd_no _ (nth R j) (okj j gj) or h3
        generalize sumR (R.take j) = A at *
        repeat' (first | ((first | apply U_); (first | exact QX.B TYok | exact QX.Len TYok | exact QX.Idx TYok | exact QX.Ext TYok | (apply Q_calld a1; exact EvD.auto)); exact rfl) | refine SX.Alloc TYok (h := ?_) | refine SX.Store TYok (h := ?_) | refine SC ?_ | apply LexS.nil | (apply LexS.f; exact rfl; (first | (apply FreshV.alloc TYok; exact rfl; exact rfl; exact rfl; exact rfl) | (apply FreshV.lit TYok; (repeat (first | exact EvR.nil | apply EvR.cons Ev.auto)); exact rfl; exact rfl; exact rfl; exact rfl; exact rfl; exact rfl; exact rfl; exact rfl; exact rfl) | (apply FreshV.box; exact Ev.auto; exact rfl; exact rfl; exact rfl)); exact rfl; exact rfl; exact rfl) | (apply LexS.s; exact rfl; exact rfl; (apply StoreV.mk TYok; exact Ev.auto; exact Ev.auto; exact rfl; exact rfl; exact rfl; exact rfl; exact rfl)) | ((first | apply LexS.u | (apply LexS.g; exact rfl; exact rfl) | (apply LexS.gq; exact rfl; exact rfl)); (repeat (first | (apply NB.cons; exact rfl) | exact NB.nil rfl)); (first | exact QX.B TYok | exact QX.Len TYok | exact QX.Idx TYok | exact QX.Ext TYok | (apply Q_calld a1; exact EvD.auto)); exact rfl; exact rfl; exact rfl) | (refine W.drawS (id := 5) [0, 0, 0, 6, 14, 31, 63, 127, 127, 0, 767, 2047] [[4], [0], [5], [17, 18], [19], [16, 20], [21], [15], [15], [], [6, 22], [23]] [(10, (6, ?_)), (9, (6, ?_))] [(10, 6), (9, 6)] mixed (by kernel_rfl) rfl ?_; rotate_left 2) | (refine W.condA (ht := fun hb => ?_) (hf := fun hb => ?_) <;> (try simp at hb) <;> (try (exfalso; omega))))
        all_goals first
          | exact FinM.ret ResM.auto
          | trace_state
theorem sum_ok (R : List Rat) (ho : ∀ r ∈ R, okF r) (hR : R.length ≤ 9223372036854775807) : ∃ v b, ACalls Try.prog 16 [slQ R] (.tup [zF v, cB b]) ∧ okF v ∧ (b = true → v = sumR R) := by
  by_cases h : ∃ j, j < R.length ∧ ¬ addOk (sumR (R.take j)) (nth R j)
  · obtain ⟨j, hj⟩ := h
    obtain ⟨n, ⟨h1, h2⟩, h3⟩ := least_ex (p := fun j => j < R.length ∧ ¬ addOk (sumR (R.take j)) (nth R j)) j hj
    have := sum_walk R ho hR n (by omega) (fun j hj => by
      by_cases k : addOk (sumR (R.take j)) (nth R j)
      · exact k
      · exact absurd ⟨by omega, k⟩ (h3 j hj)) false (.inr ⟨rfl, h1, h2⟩)
    exact ⟨_, _, this.1, this.2, fun h => by cases h⟩
  · have := sum_walk R ho hR R.length (by omega) (fun j hj => by
      by_cases k : addOk (sumR (R.take j)) (nth R j)
      · exact k
      · exact absurd ⟨j, hj, k⟩ h) true (.inl ⟨rfl, rfl⟩)
    rw [List.take_length] at this
    exact ⟨_, _, this.1, this.2, fun _ => rfl⟩
end
end Go.Proofs.Ytndfnihglpconaa
end
section
set_option linter.unusedVariables false
set_option linter.unusedSimpArgs false
set_option maxHeartbeats 8000000
namespace Go.Proofs.Ytndfnihglpconaa
open Lf Go
attribute [local irreducible] PureOp EffOp Ev RG W Then InBlock Lf.Fin nth App InitE Pick EvL EvD EvP EvR ResL Lf.Lex SubR SubBR FinO FinM ResM ResD FinS val pw digs trimL
section
open RankLaw
def smp : List Cl := [⟨0, -1, 0, 30⟩, ⟨0, -1, 0, 60⟩, ⟨0, -1, 1, 10⟩]
theorem smp_right : rightC smp = true := by decide +kernel
theorem smp_pay : payL (Rat.divInt 45 1) smp = [Rat.divInt 15 1, Rat.divInt 30 1, Rat.divInt 0 1] ∧ payL (Rat.divInt 95 1) smp = [Rat.divInt 30 1, Rat.divInt 60 1, Rat.divInt 5 1] ∧ payL (Rat.divInt 200 1) smp = [Rat.divInt 30 1, Rat.divInt 60 1, Rat.divInt 10 1] ∧ payL (Rat.divInt 1 2) smp = [Rat.divInt 1 6, Rat.divInt 1 3, Rat.divInt 0 1] := by decide +kernel
theorem smp_lst : lst smp [Rat.divInt 15 1, Rat.divInt 30 1, Rat.divInt 0 1] 3 = 0 ∧ lst smp [Rat.divInt 30 1, Rat.divInt 60 1, Rat.divInt 5 1] 3 = 1 ∧ lst smp [Rat.divInt 30 1, Rat.divInt 60 1, Rat.divInt 10 1] 3 = 10 := by decide +kernel
theorem payC_bd {r : Rat} (hr : bd r 20) {l : List Cl} (h : amtOk l) (hl : l.length ≤ 2000) {c : Cl} (hc : c ∈ l) : bd (payC r l c) 33 := by
  have sk := sums_rng h hl c.rank
  have ca := h c hc
  have oA := int_bd (n := less l c.rank) (by omega)
  have oS := int_bd (n := same l c.rank) (by omega)
  have oC := int_bd (n := c.amt) (by omega)
  unfold payC pay
  split
  · exact bd_mono (int_bd (n := 0) (by omega)) (by omega)
  · split
    · exact bd_mono oC (by omega)
    · rename_i h1 h2
      have sb := sub_bd (k := 24) (by omega) hr oA (by omega)
      have m2 := mul_bd (k := 29) (by omega) oC sb.1 (by omega)
      have hS0 : ((same l c.rank : Int) : Rat).num ≠ 0 := fun h => by
        have e : same l c.rank = 0 := h
        rw [e] at h2
        rw [Int.add_zero] at h2
        grind
      exact (div_bd (k := 33) (by omega) m2.1 oS hS0 (by omega)).1
theorem payL_ok {r : Rat} (hr : bd r 20) {l : List Cl} (h : amtOk l) (hl : l.length ≤ 2000) : ∀ x ∈ payL r l, okF x := fun x hx => by
  rw [payL_eq] at hx
  obtain ⟨c, hc, rfl⟩ := List.mem_map.1 hx
  exact bd_ok (payC_bd hr h hl hc) (by omega)
theorem payL_len (r : Rat) (l : List Cl) : (payL r l).length = l.length := by simp [payL]
theorem payL_nth (r : Rat) {l : List Cl} {i : Nat} (hi : i < l.length) : nth (payL r l) i = payC r l (nth l i) := by
  rw [nth_eq (by rw [payL_len]; exact hi), nth_eq hi]
  simp only [payL_eq, List.getElem_map]
attribute [local irreducible] sgn mag gcdZ quoZ remZ fullZ fullE
theorem of_ok (n m : Int) (h : i64B n) (hm : i64B m) (h0 : m ≠ 0) : ACalls Try.prog 19 [cI n, cI m] (.pv (zF (Rat.divInt n m))) := by
  have n1 := qOf_ok n m h hm h0
  generalize Rat.divInt n m = r at *
  refine ACalls.of_M TYok (qs := [zF r]) [.cell 4 26] 8 Try.func19 (by kernel_rfl) rfl rfl rfl fun G => ?_
  refine W.initA (hw := ?_)
  repeat' (first | ((first | apply U_); (first | exact QX.B TYok | exact QCd (n1)); exact rfl) | refine SX.Alloc TYok (h := ?_) | refine SX.Store TYok (h := ?_) | refine SC ?_ | (refine W.condA (ht := fun hb => ?_) (hf := fun hb => ?_) <;> (try simp at hb) <;> (try (exfalso; omega))))
  all_goals exact FinM.ret ResM.auto
theorem ofw_ok (n : Int) (h : i64B n) : ACalls Try.prog 19 [cI n, cI 1] (.pv (zF (n : Rat))) := by
  rw [← divInt_one]
  exact of_ok n 1 h (by unfold i64B; omega) (by omega)
theorem sample_ok : ACalls Try.prog 24 [] (.pv (slC smp)) := by
  refine ACalls.of_W (qs := [slC smp]) [0] 5 Try.func24 (by kernel_rfl) rfl rfl rfl fun G => ?_
  refine W.initA (hw := ?_)
  repeat' (first | ((first | apply U_); (first | (apply Q_litD TYok; (repeat (first | exact EvR.nil | apply EvR.cons Ev.auto)); exact rfl; exact rfl; exact rfl; exact rfl; exact rfl; exact rfl) | exact QX.B TYok | exact QX.Build TYok); exact rfl) | refine SX.Lit TYok (h := ?_) | refine SC ?_ | (refine W.condA (ht := fun hb => ?_) (hf := fun hb => ?_) <;> (try simp at hb) <;> (try (exfalso; omega))))
  all_goals first
    | exact Fin.ret ResL.auto
    | trace_state
theorem same_refl (L : List Rat) (h : ∀ r ∈ L, okF r) (hl : L.length ≤ 1000000) : ACalls Try.prog 13 [slQ L, slQ L] (.pv (cB true)) := by
  have := sameQ_ok L L h h hl hl
  rwa [decide_eq_true rfl] at this
theorem okF3 {p q : Int} (hp : i64B p) (hq : i64B q) (h : q ≠ 0) : okF (Rat.divInt p q) := okF_of (i64_ok hp) (i64_ok hq) h
theorem bdc {p q : Int} (hp : -1208925819614629174706176 < p ∧ p < 1208925819614629174706176) (hq : -1208925819614629174706176 < q ∧ q < 1208925819614629174706176) (h : q ≠ 0) : bd (Rat.divInt p q) 20 := by
  have e := pw4
  exact bd_mono (bd_div (n := 4) h (by omega) (by omega)) (by omega)
theorem small_ok : ACalls Try.prog 7 [] (.pv (cB true)) := by
  have s0 := sample_ok
  obtain ⟨e1, e2, e3, e4⟩ := smp_pay
  obtain ⟨l1, l2, l3⟩ := smp_lst
  have ix : ∀ n : Int, (-1000 ≤ n ∧ n ≤ 1000) → i64B n := fun n h => by unfold i64B; omega
  have o1 := of_ok 45 1 (ix _ (by omega)) (ix _ (by omega)) (by omega)
  have o2 := of_ok 95 1 (ix _ (by omega)) (ix _ (by omega)) (by omega)
  have o3 := of_ok 200 1 (ix _ (by omega)) (ix _ (by omega)) (by omega)
  have o4 := of_ok 1 2 (ix _ (by omega)) (ix _ (by omega)) (by omega)
  have o5 := of_ok 15 1 (ix _ (by omega)) (ix _ (by omega)) (by omega)
  have o6 := of_ok 30 1 (ix _ (by omega)) (ix _ (by omega)) (by omega)
  have o7 := of_ok 0 1 (ix _ (by omega)) (ix _ (by omega)) (by omega)
  have o8 := of_ok 60 1 (ix _ (by omega)) (ix _ (by omega)) (by omega)
  have o9 := of_ok 5 1 (ix _ (by omega)) (ix _ (by omega)) (by omega)
  have o10 := of_ok 10 1 (ix _ (by omega)) (ix _ (by omega)) (by omega)
  have o11 := of_ok 1 6 (ix _ (by omega)) (ix _ (by omega)) (by omega)
  have o12 := of_ok 1 3 (ix _ (by omega)) (ix _ (by omega)) (by omega)
  have nn : ∀ {p q : Int}, 0 ≤ p → 0 < q → (0 : Rat) ≤ Rat.divInt p q := fun {p q} hp hq => Rat.divInt_nonneg hp (by omega)
  have p1 := split_ok _ smp (bdc (p := 45) (q := 1) (by omega) (by omega) (by omega)) (nn (by omega) (by omega)) smp_right
  have p2 := split_ok _ smp (bdc (p := 95) (q := 1) (by omega) (by omega) (by omega)) (nn (by omega) (by omega)) smp_right
  have p3 := split_ok _ smp (bdc (p := 200) (q := 1) (by omega) (by omega) (by omega)) (nn (by omega) (by omega)) smp_right
  have p4 := split_ok _ smp (bdc (p := 1) (q := 2) (by omega) (by omega) (by omega)) (nn (by omega) (by omega)) smp_right
  rw [e1] at p1
  rw [e2] at p2
  rw [e3] at p3
  rw [e4] at p4
  have k5 := okF3 (p := 15) (q := 1) (ix _ (by omega)) (ix _ (by omega)) (by omega)
  have k6 := okF3 (p := 30) (q := 1) (ix _ (by omega)) (ix _ (by omega)) (by omega)
  have k7 := okF3 (p := 0) (q := 1) (ix _ (by omega)) (ix _ (by omega)) (by omega)
  have k8 := okF3 (p := 60) (q := 1) (ix _ (by omega)) (ix _ (by omega)) (by omega)
  have k9 := okF3 (p := 5) (q := 1) (ix _ (by omega)) (ix _ (by omega)) (by omega)
  have k10 := okF3 (p := 10) (q := 1) (ix _ (by omega)) (ix _ (by omega)) (by omega)
  have k11 := okF3 (p := 1) (q := 6) (ix _ (by omega)) (ix _ (by omega)) (by omega)
  have k12 := okF3 (p := 1) (q := 3) (ix _ (by omega)) (ix _ (by omega)) (by omega)
  have t3 : ∀ {a b c : Rat}, okF a → okF b → okF c → ∀ r ∈ [a, b, c], okF r := fun {a b c} h1 h2 h3 r hr => by
    rcases List.mem_cons.1 hr with rfl | hr
    · exact h1
    rcases List.mem_cons.1 hr with rfl | hr
    · exact h2
    rcases List.mem_cons.1 hr with rfl | hr
    · exact h3
    · cases hr
  have h1 := pshort_ok smp _ smp_right rfl (t3 k5 k6 k7)
  have h2 := pshort_ok smp _ smp_right rfl (t3 k6 k8 k9)
  have h3 := pshort_ok smp _ smp_right rfl (t3 k6 k8 k10)
  rw [show smp.length = 3 from rfl, l1] at h1
  rw [show smp.length = 3 from rfl, l2] at h2
  rw [show smp.length = 3 from rfl, l3] at h3
  replace h1 : ACalls Try.prog 11 [slC smp, slQ _] (.tup [cI 0, cB true]) := h1
  replace h2 : ACalls Try.prog 11 [slC smp, slQ _] (.tup [cI 1, cB true]) := h2
  replace h3 : ACalls Try.prog 11 [slC smp, slQ _] (.tup [cI 0, cB false]) := h3
  have s1 := same_refl _ (t3 k5 k6 k7) (by decide)
  have s2 := same_refl _ (t3 k6 k8 k9) (by decide)
  have s3 := same_refl _ (t3 k6 k8 k10) (by decide)
  have s4 := same_refl _ (t3 k11 k12 k7) (by decide)
  clear k5 k6 k7 k8 k9 k10 k11 k12 t3 nn ix l1 l2 l3 e1 e2 e3 e4
  generalize Rat.divInt 45 1 = r1 at *
  generalize Rat.divInt 95 1 = r2 at *
  generalize Rat.divInt 200 1 = r3 at *
  generalize Rat.divInt 1 2 = r4 at *
  generalize Rat.divInt 15 1 = r5 at *
  generalize Rat.divInt 30 1 = r6 at *
  generalize Rat.divInt 0 1 = r7 at *
  generalize Rat.divInt 60 1 = r8 at *
  generalize Rat.divInt 5 1 = r9 at *
  generalize Rat.divInt 10 1 = r10 at *
  generalize Rat.divInt 1 6 = r11 at *
  generalize Rat.divInt 1 3 = r12 at *
  generalize smp = S at *
  refine ACalls.of_W (qs := [cB true]) [0] 125 Try.func7 (by kernel_rfl) rfl rfl rfl fun G => ?_
  refine W.initA (hw := ?_)
  repeat' (first | ((first | apply U_ | (apply Ug_; exact rfl; exact rfl) | (apply Ugq_; exact rfl; exact rfl)); (first | (apply Q_litD TYok; (repeat (first | exact EvR.nil | apply EvR.cons Ev.auto)); exact rfl; exact rfl; exact rfl; exact rfl; exact rfl; exact rfl) | exact QX.B TYok | exact QX.Ext TYok | exact QCd (s0) | exact QCd (o1) | exact QCd (o2) | exact QCd (o3) | exact QCd (o4) | exact QCd (o5) | exact QCd (o6) | exact QCd (o7) | exact QCd (o8) | exact QCd (o9) | exact QCd (o10) | exact QCd (o11) | exact QCd (o12) | exact QCd (p1) | exact QCd (p2) | exact QCd (p3) | exact QCd (p4) | exact QCd (h1) | exact QCd (h2) | exact QCd (h3) | exact QCd (s1) | exact QCd (s2) | exact QCd (s3) | exact QCd (s4)); exact rfl) | refine SX.Lit TYok (h := ?_) | refine SC ?_ | (apply S_isnil TYok; exact rfl; exact rfl; exact rfl; exact Ev.auto; intro bn hnil) | refine SG ?_ | (refine W.condA (ht := fun hb => ?_) (hf := fun hb => ?_) <;> (try simp at hb) <;> (try (exfalso; omega))))
  all_goals first
    | exact Fin.ret ResL.auto
    | trace_state
end
end Go.Proofs.Ytndfnihglpconaa
end
section
set_option linter.unusedVariables false
set_option linter.unusedSimpArgs false
set_option maxHeartbeats 8000000
namespace Go.Proofs.Ytndfnihglpconaa
open Lf Go
attribute [local irreducible] PureOp EffOp Ev RG W Then InBlock Lf.Fin nth App InitE Pick EvL EvD EvP EvR ResL Lf.Lex SubR SubBR FinO FinM ResM ResD FinS val pw digs trimL
section
open RankLaw
attribute [local irreducible] sgn mag gcdZ quoZ remZ fullZ fullE
theorem minR_ints (a b : Int) : minR (a : Rat) (b : Rat) = ((min a b : Int) : Rat) := by
  unfold minR
  by_cases h : a ≤ b
  · rw [if_pos (Rat.intCast_le_intCast.2 h), show min a b = a by omega]
  · rw [if_neg (fun q => h (Rat.intCast_le_intCast.1 q)), show min a b = b by omega]
theorem few0_ok (l : List Cl) (hl : l.length ≤ 9223372036854775807) : ∃ b, ACalls Try.prog 8 [zF ((0 : Int) : Rat), slC l] (.pv (cB b)) ∧ (b = true → l.length ≤ 20) := by
  have h := num_len (okF_int (n := 0) (by unfold i64B; omega)).1
  have h2 := num_len (okF_int (n := 0) (by unfold i64B; omega)).2
  refine ⟨_, rfew_ok _ _ _ _ l (by omega) (by omega) hl, fun h => ?_⟩
  simp only [Bool.and_eq_true, decide_eq_true_iff] at h
  omega
theorem more_ok (a c : Int) (l : List Cl) (ia : i64B a) (ic : i64B c) (hl : l.length ≤ 9223372036854775807) : ACalls Try.prog 5 [cI a, cI c, slC l] (.pv (cB true)) := by
  have h0 := small_ok
  have z0 := ofw_ok 0 (by unfold i64B; omega)
  obtain ⟨b, f1, hb1⟩ := few0_ok l hl
  have p1 := rrightC_ok l hl
  by_cases hw : ((((b = true ∧ rightC l = true) ∧ 0 ≤ a) ∧ 0 ≤ c) ∧ a ≤ 1099511627776) ∧ c ≤ 1099511627776
  case neg =>
    generalize rightC l = b2 at *
    have hw2 : ¬ (((((b = true ∧ b2 = true) ∧ ¬ a < 0) ∧ ¬ c < 0) ∧ ¬ 1099511627776 < a) ∧ ¬ 1099511627776 < c) := fun q => hw ⟨⟨⟨⟨q.1.1.1.1, by omega⟩, by omega⟩, by omega⟩, by omega⟩
    have hw3 : ((((((b = true ∧ b2 = true) ∧ 0 ≤ a) ∧ 0 ≤ c) ∧ a ≤ 1099511627776) ∧ c ≤ 1099511627776)) → False := hw
    refine ACalls.of_W (qs := [cB true]) [6] 133 Try.func5 (by kernel_rfl) rfl rfl rfl fun G => ?_
    refine W.initA (hw := ?_)
    repeat' (first | ((first | apply U_ | (apply Ug_; exact rfl; exact rfl) | (apply Ugq_; exact rfl; exact rfl) | apply Lex.u | (apply Lex.g; exact rfl; exact rfl) | (apply Lex.gq; exact rfl; exact rfl)); (first | exact QX.B TYok | exact QX.Num TYok | exact QX.Len TYok | exact QX.Idx TYok | exact QX.Ext TYok | exact QCd (h0) | exact QCd (z0) | exact QCd (f1) | exact QCd (p1)); exact rfl) | refine SX.Alloc TYok (h := ?_) | refine SX.Store TYok (h := ?_) | refine SC ?_ | refine SG ?_ | (apply W.draw2 (id := 11) [0, 0, 3, 7, 0, 0, 48, 112, 255, 511] [[8], [12], [86, 87], [88], [10], [12], [90, 91], [92], [89, 93], [94]] 10 [(86, 256), (87, 4096), (88, 232113757366008801543585792), (89, 309485009821345068724781056), (90, 1024), (91, 4096), (92, 3713820117856140824697372672), (93, 4951760157141521099596496896), (94, 10522490333925732336642555904), (95, 19807040628566084398385987584)] mixed (by kernel_rfl) rfl rfl) | (apply W.draw2 (id := 15) [0, 1, 3, 3, 3, 19, 59, 123, 255, 511, 1023, 2047, 4095, 8191, 16383, 16383, 16383, 114687, 16383, 278527, 1032191, 2080767, 4194303, 8388607, 16777215, 33554431] [[14], [106], [13, 107], [0, 107], [2, 107], [110, 107], [109, 111, 107], [112, 107], [108, 113, 107], [114, 107], [107, 115], [116], [16, 117], [118, 117], [15, 119], [0, 119], [1, 119], [121, 122, 119], [2, 119], [124, 119], [123, 125, 119], [126, 119], [120, 127, 119], [128, 119], [119, 129, 117], [117, 130]] 26 [(106, 16384), (107, 81129638414606681695789005144064), (108, 162259276829213363391578010296320), (109, 162259276829213363391578010288129), (110, 162259276829213363391578010288132), (111, 1460333491462920270524202092593152), (112, 3407444813413480631223138216050688), (113, 5354556135364040991922074339508224), (114, 10871371547557295347235726689304576), (115, 20931446710968523877513563327168512), (116, 41700634145107834391635548644048896), (117, 83076749736557242056487941267521536), (118, 166153499473114484112975882535108608), (119, 498460498419343452338927647605129216), (120, 664613997892457936451903530140205056), (121, 664613997892457936451903530140172289), (122, 664613997892457936451903530140172290), (123, 8639981972601953173874745891822239744), (124, 664613997892457936451903530140172292), (125, 21932261930451111902912816494625685504), (126, 53833733829289092852604185941353955328), (127, 85735205728127073802295555388082225152), (128, 172135025454146605541043014306304622592), (129, 340946980918830921399826510961908383744), (130, 681395501339242499347314094276211638272), (131, 1361295621183226968337611405609607888896)] mixed (by kernel_rfl) rfl rfl) | (refine W.condA (ht := fun hb => ?_) (hf := fun hb => ?_) <;> (try simp at hb) <;> (try (exfalso; first | exact hw3 hb | exact hw2 hb | omega))))
    all_goals first
      | exact Fin.ret ResL.auto
      | trace_state
  obtain ⟨⟨⟨⟨⟨rfl, hc⟩, w1⟩, w2⟩, w3⟩, w4⟩ := hw
  have l20 := hb1 rfl
  rw [hc] at p1
  obtain ⟨hok, ha, hl2⟩ := rightC_yes hc
  have oa := ofw_ok a ia
  have oc := ofw_ok (a + c) (by unfold i64B; omega)
  have ba := bd_mono (n := 20) (int_bd (n := a) (by omega)) (by omega)
  have bc := bd_mono (n := 20) (int_bd (n := a + c) (by omega)) (by omega)
  have a0 : (0 : Rat) ≤ (a : Rat) := by exact_mod_cast w1
  have c0 : (0 : Rat) ≤ ((a + c : Int) : Rat) := by exact_mod_cast (show 0 ≤ a + c by omega)
  have ac : (a : Rat) ≤ ((a + c : Int) : Rat) := by exact_mod_cast (show a ≤ a + c by omega)
  have s1 := split_ok a l ba a0 hc
  have s2 := split_ok ((a + c : Int) : Rat) l bc c0 hc
  have ol := payL_ok ba ha hl2
  have ol2 := payL_ok bc ha hl2
  have ll := payL_len (a : Rat) l
  have ll2 := payL_len ((a + c : Int) : Rat) l
  obtain ⟨u, b1, m1, ou, hu⟩ := sum_ok (payL a l) ol (by omega)
  obtain ⟨v, b2, m2, ov, hv⟩ := sum_ok (payL ((a + c : Int) : Rat) l) ol2 (by omega)
  rw [pay_sum a0 hok, minR_ints] at hu
  rw [pay_sum c0 hok, minR_ints] at hv
  have t1 := total_ok l ha hl2
  have st := sums_rng ha hl2 0
  have n1 := ofw_ok (min a (total l)) (by unfold i64B; omega)
  have n2 := ofw_ok (min (a + c) (total l)) (by unfold i64B; omega)
  have e1 := same_ok u ((min a (total l) : Int) : Rat) ou (okF_int (by unfold i64B; omega))
  have e2 := same_ok v ((min (a + c) (total l) : Int) : Rat) ov (okF_int (by unfold i64B; omega))
  have hmono : ∀ i, i < l.length → ¬ 0 < cmpR (nth (payL a l) i) (nth (payL ((a + c : Int) : Rat) l) i) := fun i hi => by
    rw [payL_nth _ hi, payL_nth _ hi]
    have := pay_mono ac (less l (nth l i).rank) (same l (nth l i).rank) (hok _ (nth_mem hi)).2.2
    rcases cmpR_cases (payC a l (nth l i)) (payC ((a + c : Int) : Rat) l (nth l i)) with h | h | h
    · omega
    · omega
    · have h2 := h.2
      unfold payC at h2
      exact absurd h2 (by grind)
  generalize payL (a : Rat) l = L at *
  generalize payL ((a + c : Int) : Rat) l = L2 at *
  generalize ((min a (total l) : Int) : Rat) = M at *
  generalize ((min (a + c) (total l) : Int) : Rat) = M2 at *
  have hbad : ((b1 = true ∧ ¬ u = M) ∨ (b2 = true ∧ ¬ v = M2)) → False := fun h => by
    rcases h with h | h
    · exact h.2 (hu h.1)
    · exact h.2 (hv h.1)
  refine ACalls.of_W (qs := [cB true]) [6] 133 Try.func5 (by kernel_rfl) rfl rfl rfl fun G => ?_
  refine W.initA (hw := ?_)
  repeat' (first | ((first | apply U_ | (apply Ug_; exact rfl; exact rfl) | (apply Ugq_; exact rfl; exact rfl) | apply Lex.u | (apply Lex.g; exact rfl; exact rfl) | (apply Lex.gq; exact rfl; exact rfl)); (first | exact QX.B TYok | exact QX.Num TYok | exact QX.Len TYok | exact QX.Idx TYok | exact QX.Ext TYok | exact QCd (h0) | exact QCd (z0) | exact QCd (f1) | exact QCd (p1) | exact QCd (oa) | exact QCd (oc) | exact QCd (s1) | exact QCd (s2)); exact rfl) | refine SX.Alloc TYok (h := ?_) | refine SX.Store TYok (h := ?_) | refine SC ?_ | refine SG ?_ | (apply W.draw2 (id := 11) [0, 0, 3, 7, 0, 0, 48, 112, 255, 511] [[8], [12], [86, 87], [88], [10], [12], [90, 91], [92], [89, 93], [94]] 10 [(86, 256), (87, 4096), (88, 232113757366008801543585792), (89, 309485009821345068724781056), (90, 1024), (91, 4096), (92, 3713820117856140824697372672), (93, 4951760157141521099596496896), (94, 10522490333925732336642555904), (95, 19807040628566084398385987584)] mixed (by kernel_rfl) rfl rfl) | (apply W.draw2 (id := 15) [0, 1, 3, 3, 3, 19, 59, 123, 255, 511, 1023, 2047, 4095, 8191, 16383, 16383, 16383, 114687, 16383, 278527, 1032191, 2080767, 4194303, 8388607, 16777215, 33554431] [[14], [106], [13, 107], [0, 107], [2, 107], [110, 107], [109, 111, 107], [112, 107], [108, 113, 107], [114, 107], [107, 115], [116], [16, 117], [118, 117], [15, 119], [0, 119], [1, 119], [121, 122, 119], [2, 119], [124, 119], [123, 125, 119], [126, 119], [120, 127, 119], [128, 119], [119, 129, 117], [117, 130]] 26 [(106, 16384), (107, 81129638414606681695789005144064), (108, 162259276829213363391578010296320), (109, 162259276829213363391578010288129), (110, 162259276829213363391578010288132), (111, 1460333491462920270524202092593152), (112, 3407444813413480631223138216050688), (113, 5354556135364040991922074339508224), (114, 10871371547557295347235726689304576), (115, 20931446710968523877513563327168512), (116, 41700634145107834391635548644048896), (117, 83076749736557242056487941267521536), (118, 166153499473114484112975882535108608), (119, 498460498419343452338927647605129216), (120, 664613997892457936451903530140205056), (121, 664613997892457936451903530140172289), (122, 664613997892457936451903530140172290), (123, 8639981972601953173874745891822239744), (124, 664613997892457936451903530140172292), (125, 21932261930451111902912816494625685504), (126, 53833733829289092852604185941353955328), (127, 85735205728127073802295555388082225152), (128, 172135025454146605541043014306304622592), (129, 340946980918830921399826510961908383744), (130, 681395501339242499347314094276211638272), (131, 1361295621183226968337611405609607888896)] mixed (by kernel_rfl) rfl rfl) | (refine W.condA (ht := fun hb => ?_) (hf := fun hb => ?_) <;> (try simp at hb) <;> (try (exfalso; omega))))
  apply W.loopP (σ := Nat) 133 [0, 1, 2, 7, 8, 10] (fun i => i ≤ l.length) (fun i => [(12, vI i)]) (fun _ => []) (fun i => l.length - i) (0)
  case hp => repeat (first | exact Pick.nil | apply Pick.cons rfl)
  case h0 =>
    refine ⟨by omega, ?_⟩
    exact Le.auto
  case round =>
    rintro i gi
    apply W.norm (by repeat (first | exact App.nil | apply App.cons))
    by_cases hi : i < l.length
    · have k1 := qcmp_ok (nth L i) (nth L2 i) (ol _ (nth_mem (l := L) (by omega))) (ol2 _ (nth_mem (l := L2) (by omega)))
      have hm := hmono i hi
      generalize cmpR (nth L i) (nth L2 i) = C at *
      repeat' (first | ((first | apply U_ | (apply Ug_; exact rfl; exact rfl) | (apply Ugq_; exact rfl; exact rfl) | apply Lex.u | (apply Lex.g; exact rfl; exact rfl) | (apply Lex.gq; exact rfl; exact rfl)); (first | exact QX.B TYok | exact QX.Num TYok | exact QX.Len TYok | exact QX.Idx TYok | exact QX.Ext TYok | exact QCd (k1)); exact rfl) | refine SX.Alloc TYok (h := ?_) | refine SX.Store TYok (h := ?_) | refine SC ?_ | refine SG ?_ | (apply W.draw2 (id := 11) [0, 0, 3, 7, 0, 0, 48, 112, 255, 511] [[8], [12], [86, 87], [88], [10], [12], [90, 91], [92], [89, 93], [94]] 10 [(86, 256), (87, 4096), (88, 232113757366008801543585792), (89, 309485009821345068724781056), (90, 1024), (91, 4096), (92, 3713820117856140824697372672), (93, 4951760157141521099596496896), (94, 10522490333925732336642555904), (95, 19807040628566084398385987584)] mixed (by kernel_rfl) rfl rfl) | (apply W.draw2 (id := 15) [0, 1, 3, 3, 3, 19, 59, 123, 255, 511, 1023, 2047, 4095, 8191, 16383, 16383, 16383, 114687, 16383, 278527, 1032191, 2080767, 4194303, 8388607, 16777215, 33554431] [[14], [106], [13, 107], [0, 107], [2, 107], [110, 107], [109, 111, 107], [112, 107], [108, 113, 107], [114, 107], [107, 115], [116], [16, 117], [118, 117], [15, 119], [0, 119], [1, 119], [121, 122, 119], [2, 119], [124, 119], [123, 125, 119], [126, 119], [120, 127, 119], [128, 119], [119, 129, 117], [117, 130]] 26 [(106, 16384), (107, 81129638414606681695789005144064), (108, 162259276829213363391578010296320), (109, 162259276829213363391578010288129), (110, 162259276829213363391578010288132), (111, 1460333491462920270524202092593152), (112, 3407444813413480631223138216050688), (113, 5354556135364040991922074339508224), (114, 10871371547557295347235726689304576), (115, 20931446710968523877513563327168512), (116, 41700634145107834391635548644048896), (117, 83076749736557242056487941267521536), (118, 166153499473114484112975882535108608), (119, 498460498419343452338927647605129216), (120, 664613997892457936451903530140205056), (121, 664613997892457936451903530140172289), (122, 664613997892457936451903530140172290), (123, 8639981972601953173874745891822239744), (124, 664613997892457936451903530140172292), (125, 21932261930451111902912816494625685504), (126, 53833733829289092852604185941353955328), (127, 85735205728127073802295555388082225152), (128, 172135025454146605541043014306304622592), (129, 340946980918830921399826510961908383744), (130, 681395501339242499347314094276211638272), (131, 1361295621183226968337611405609607888896)] mixed (by kernel_rfl) rfl rfl) | (refine W.condA (ht := fun hb => ?_) (hf := fun hb => ?_) <;> (try simp at hb) <;> (try (exfalso; omega))))
      all_goals first
        | (refine ⟨i + 1, by omega, ?_, by omega⟩; exact Le.auto)
        | trace_state
    · obtain rfl : i = l.length := by omega
      repeat' (first | ((first | apply U_ | (apply Ug_; exact rfl; exact rfl) | (apply Ugq_; exact rfl; exact rfl) | apply Lex.u | (apply Lex.g; exact rfl; exact rfl) | (apply Lex.gq; exact rfl; exact rfl)); (first | exact QX.B TYok | exact QX.Num TYok | exact QX.Len TYok | exact QX.Idx TYok | exact QX.Ext TYok | exact QCd (m1) | exact QCd (m2) | exact QCd (t1) | exact QCd (n1) | exact QCd (n2) | exact QCd (e1) | exact QCd (e2)); exact rfl) | refine SX.Alloc TYok (h := ?_) | refine SX.Store TYok (h := ?_) | refine SC ?_ | refine SG ?_ | (apply W.draw2 (id := 11) [0, 0, 3, 7, 0, 0, 48, 112, 255, 511] [[8], [12], [86, 87], [88], [10], [12], [90, 91], [92], [89, 93], [94]] 10 [(86, 256), (87, 4096), (88, 232113757366008801543585792), (89, 309485009821345068724781056), (90, 1024), (91, 4096), (92, 3713820117856140824697372672), (93, 4951760157141521099596496896), (94, 10522490333925732336642555904), (95, 19807040628566084398385987584)] mixed (by kernel_rfl) rfl rfl) | (apply W.draw2 (id := 15) [0, 1, 3, 3, 3, 19, 59, 123, 255, 511, 1023, 2047, 4095, 8191, 16383, 16383, 16383, 114687, 16383, 278527, 1032191, 2080767, 4194303, 8388607, 16777215, 33554431] [[14], [106], [13, 107], [0, 107], [2, 107], [110, 107], [109, 111, 107], [112, 107], [108, 113, 107], [114, 107], [107, 115], [116], [16, 117], [118, 117], [15, 119], [0, 119], [1, 119], [121, 122, 119], [2, 119], [124, 119], [123, 125, 119], [126, 119], [120, 127, 119], [128, 119], [119, 129, 117], [117, 130]] 26 [(106, 16384), (107, 81129638414606681695789005144064), (108, 162259276829213363391578010296320), (109, 162259276829213363391578010288129), (110, 162259276829213363391578010288132), (111, 1460333491462920270524202092593152), (112, 3407444813413480631223138216050688), (113, 5354556135364040991922074339508224), (114, 10871371547557295347235726689304576), (115, 20931446710968523877513563327168512), (116, 41700634145107834391635548644048896), (117, 83076749736557242056487941267521536), (118, 166153499473114484112975882535108608), (119, 498460498419343452338927647605129216), (120, 664613997892457936451903530140205056), (121, 664613997892457936451903530140172289), (122, 664613997892457936451903530140172290), (123, 8639981972601953173874745891822239744), (124, 664613997892457936451903530140172292), (125, 21932261930451111902912816494625685504), (126, 53833733829289092852604185941353955328), (127, 85735205728127073802295555388082225152), (128, 172135025454146605541043014306304622592), (129, 340946980918830921399826510961908383744), (130, 681395501339242499347314094276211638272), (131, 1361295621183226968337611405609607888896)] mixed (by kernel_rfl) rfl rfl) | (refine W.condA (ht := fun hb => ?_) (hf := fun hb => ?_) <;> (try simp at hb) <;> (try (exfalso; first | exact hbad hb | omega))))
      all_goals first
        | exact Fin.ret ResL.auto
        | trace_state
end
end Go.Proofs.Ytndfnihglpconaa
end
section
set_option linter.unusedVariables false
set_option linter.unusedSimpArgs false
set_option linter.unusedSectionVars false
namespace Lf
open Go Go.RowKit Go.ChangeShapes Go.WideShapes Go.ChangeAt
def allΦ (w : World) : Frz := fun b => match w.heap[b]? with | some (.cells c _ _) => some c | _ => none
theorem fits_all (w : World) : Fits (allΦ w) w := by
  intro b cs h
  unfold allΦ at h
  split at h
  · rename_i c e l he
    obtain rfl := Option.some.inj h
    exact ⟨_, _, he⟩
  · cases h
theorem cell_all {w : World} {a : Addr} {v : Value} (h : w.cell? a = some v) : a.spot = none ∧ (allΦ w a.block).bind (·[a.off]?) = some v := by
  unfold World.cell? at h
  unfold allΦ
  split at h
  · rename_i c e l he
    rw [he]
    split at h
    · cases h
    · rename_i hs
      exact ⟨by simpa using hs, by simpa using h⟩
  · cases h
def TyS (R : Nat → List Cell → Prop) : List (Nat × Nat) → List Cell → Prop
  | [], cl => cl = []
  | (_, ft) :: fs, cl => ∃ a b, cl = a ++ b ∧ R ft a ∧ TyS R fs b
def TyL (T : TT) : Nat → Nat → List Cell → Prop
  | 0, _, _ => False
  | n + 1, t, cl => match (T t).map TI.kind with
    | some (.int k) => ∃ i, cl = [.int k i] ∧ (Lit.int k i).wf = true
    | some .bool => ∃ b, cl = [.bool b]
    | some .string => ∃ s, cl = [.str s] ∧ s.length ≤ maxLen
    | some (.slice e) => ∃ rows, cl = [.sl rows] ∧ rows.length ≤ maxLen ∧ ∀ r ∈ rows, TyL T n e r
    | some (.struct fs) => TyS (TyL T n) fs cl
    | _ => False
def tile (T : TT) : Nat → List (Nat × Nat) → Option Nat
  | o, [] => some o
  | o, (fo, ft) :: fs => bif Nat.beq fo o then (T ft).bind fun ti => tile T (o + ti.sz) fs else none
def sup (T : TT) : Nat → Nat → Bool
  | 0, _ => false
  | n + 1, t => match T t with
    | some ti => (match ti.kind with
      | .int _ | .bool | .string => Nat.beq ti.sz 1
      | .slice e => Nat.beq ti.sz 1 && sup T n e && (match T e with | some te => Nat.blt 0 te.sz | none => false)
      | .struct fs => (match tile T 0 fs with | some s => Nat.beq s ti.sz | none => false) && fs.all fun f => sup T n f.2
      | _ => false)
    | none => false
theorem pick_rows {α : Type} {p : Nat → α → Prop} : ∀ {n : Nat}, (∀ i, i < n → ∃ r, p i r) → ∃ rows : List α, rows.length = n ∧ ∀ i r, rows[i]? = some r → p i r
  | 0, _ => ⟨[], rfl, fun i r h => by simp at h⟩
  | n + 1, h => by
    obtain ⟨rows, h1, h2⟩ := pick_rows (n := n) fun i hi => h i (by omega)
    obtain ⟨r, hr⟩ := h n (by omega)
    refine ⟨rows ++ [r], by simp [h1], fun i s hs => ?_⟩
    rw [List.getElem?_append] at hs
    split at hs
    · exact h2 i s hs
    · rename_i hi
      by_cases he : i = n
      · subst he
        simp [h1] at hs
        exact hs ▸ hr
      · rw [List.getElem?_eq_none (by simp; omega)] at hs
        cases hs
section
variable {P : Program} {T : TT} (hT : TOK P T)
include hT
theorem cellsOf_ti {t : Nat} {ti : TI} (h : T t = some ti) : P.cellsOf t = ti.sz := by
  obtain ⟨i, hi, hs, _⟩ := (hT t ti h).info
  simp [Program.cellsOf, hi, hs]
theorem read {H : Type} {enc : TypeId × Value → H} {w : World} {base : Nat} {spare : Nat → Bool} {held : Bool} : ∀ (n t fuel : Nat) (cs : List Value) (x : DataW H × List MemPlace), sup T n t = true → DataW.trod enc P w base spare held fuel t cs = some x →
    ∃ cl, RelL (allΦ w) cs cl ∧ TyL T n t cl ∧ ∀ ti, T t = some ti → cl.length = ti.sz := by
  intro n
  induction n with
  | zero => intro t fuel cs x hs _; simp [sup] at hs
  | succ n ih =>
    intro t fuel cs x hs h
    cases hti : T t with
    | none => simp [sup, hti] at hs
    | some ti =>
      have hk := (hT t ti hti).kind
      have hz := cellsOf_ti hT hti
      simp only [sup, hti] at hs
      simp only [TyL, hti, Option.map_some]
      cases hkd : ti.kind with
      | int k =>
        rw [hkd] at hk hs
        obtain ⟨i, rfl, hx, hw⟩ := DataW.trod_int hk h
        exact ⟨[.int k i], ⟨.int k i, trivial⟩, ⟨i, rfl, hw⟩, fun tj hj => by obtain rfl := Option.some.inj hj; simpa using (Nat.eq_of_beq_eq_true hs).symm⟩
      | bool =>
        rw [hkd] at hk hs
        obtain ⟨b, rfl, hx⟩ := DataW.trod_bool hk h
        exact ⟨[.bool b], ⟨.bool b, trivial⟩, ⟨b, rfl⟩, fun tj hj => by obtain rfl := Option.some.inj hj; simpa using (Nat.eq_of_beq_eq_true hs).symm⟩
      | string =>
        rw [hkd] at hk hs
        obtain ⟨s, rfl, hx, hw⟩ := DataW.trod_string hk h
        refine ⟨[.str s.data.toList], ⟨.str s, trivial⟩, ⟨_, rfl, ?_⟩, fun tj hj => by obtain rfl := Option.some.inj hj; simpa using (Nat.eq_of_beq_eq_true hs).symm⟩
        rw [Array.length_toList]; exact hw
      | slice e =>
        rw [hkd] at hk hs
        simp only [Bool.and_eq_true] at hs
        obtain ⟨⟨hs1, hs2⟩, hs3⟩ := hs
        cases hte : T e with
        | none => rw [hte] at hs3; cases hs3
        | some te =>
          rw [hte] at hs3
          have hpos := blt_lt hs3
          have hze := cellsOf_ti hT hte
          have hlen1 : ∀ tj, some ti = some tj → 1 = tj.sz := fun tj hj => by obtain rfl := Option.some.inj hj; exact (Nat.eq_of_beq_eq_true hs1).symm
          rcases DataW.trod_slice hk h with ⟨rfl, hx⟩ | ⟨a, len, cap, elems, rest, m, rfl, rfl, hx, hb, hl, hm, hel, hget, _, _⟩
          · exact ⟨[.sl []], ⟨.sl0, trivial⟩, ⟨[], rfl, Nat.zero_le _, fun r hr => by cases hr⟩, hlen1⟩
          · have each : ∀ i, i < len → ∃ cl : List Cell, ∃ ci, w.cells? base (a.add (i * P.cellsOf e)) (P.cellsOf e) = some ci ∧ RelL (allΦ w) ci cl ∧ TyL T n e cl ∧ cl.length = te.sz := by
              intro i hi
              have h1 := hget i hi
              rw [List.getElem?_eq_getElem (by omega)] at h1
              cases hc : w.cells? base (a.add (i * P.cellsOf e)) (P.cellsOf e) with
              | none => rw [hc] at h1; cases h1
              | some ci =>
                rw [hc] at h1
                obtain ⟨cl, g1, g2, g3⟩ := ih e m ci _ hs2 h1
                exact ⟨cl, ci, rfl, g1, g2, g3 te hte⟩
            obtain ⟨rows, hr1, hr2⟩ := pick_rows each
            refine ⟨[.sl rows], ⟨?_, trivial⟩, ⟨rows, rfl, by omega, fun r hr => ?_⟩, hlen1⟩
            · by_cases h0 : len = 0
              · subst h0
                obtain rfl : rows = [] := List.eq_nil_of_length_eq_zero hr1
                exact .slE a cap
              · obtain ⟨b, off, spot⟩ := a
                have cellat : ∀ i j r c, rows[i]? = some r → r[j]? = some c → ∃ v, w.cell? (Addr.add (Addr.add ⟨b, off, spot⟩ (i * te.sz)) j) = some v ∧ Rel (allΦ w) v c := by
                  intro i j r c h1 h2
                  obtain ⟨ci, g1, g2, g3, g4⟩ := hr2 i r h1
                  obtain ⟨v, hv1, hv2⟩ := g2.get h2
                  rw [hze] at g1
                  have hj : j < te.sz := by have := (List.getElem?_eq_some_iff.1 h2).1; omega
                  have := World.cells?_some g1
                  refine ⟨v, ?_, hv2⟩
                  rw [← hv1]
                  exact this.2.2 j hj
                have hrow0 : ∃ r, rows[0]? = some r := ⟨rows[0]'(by omega), List.getElem?_eq_getElem (by omega)⟩
                obtain ⟨r0, hr0⟩ := hrow0
                obtain ⟨_, _, _, _, hl0⟩ := hr2 0 r0 hr0
                obtain ⟨v0, hv0, _⟩ := cellat 0 0 r0 _ hr0 (List.getElem?_eq_getElem (show 0 < r0.length by omega))
                have hz0 : Addr.add (Addr.add ⟨b, off, spot⟩ (0 * te.sz)) 0 = ⟨b, off, spot⟩ := by simp [Addr.add]
                rw [hz0] at hv0
                have hsp : spot = none := (cell_all hv0).1
                subst hsp
                refine .sl b off len cap te.sz rows (fun i j => ((allΦ w b).bind (·[off + (i * te.sz + j)]?)).getD .nilFunc) hr1 hl (fun r hr => ?_) (fun i j r c h1 h2 => ?_) (fun i j r c h1 h2 => ?_)
                · obtain ⟨i, hi⟩ := List.getElem?_of_mem hr
                  obtain ⟨_, _, _, _, g⟩ := hr2 i r hi
                  exact g
                · obtain ⟨v, hv, _⟩ := cellat i j r c h1 h2
                  have := (cell_all hv).2
                  simp only [Addr.add_lit] at this
                  rw [show off + (i * te.sz + j) = off + i * te.sz + j by omega, this]; rfl
                · obtain ⟨v, hv, hv2⟩ := cellat i j r c h1 h2
                  have := (cell_all hv).2
                  simp only [Addr.add_lit] at this
                  rw [show off + (i * te.sz + j) = off + i * te.sz + j by omega, this]; exact hv2
            · obtain ⟨i, hi⟩ := List.getElem?_of_mem hr
              obtain ⟨_, _, _, g, _⟩ := hr2 i r hi
              exact g
      | struct fs =>
        rw [hkd] at hk hs
        obtain ⟨fields, hu, hfs⟩ := hk
        simp only [Bool.and_eq_true] at hs
        obtain ⟨hs1, hs2⟩ := hs
        cases htl : tile T 0 fs with
        | none => rw [htl] at hs1; cases hs1
        | some tot =>
          rw [htl] at hs1
          have htot := Nat.eq_of_beq_eq_true hs1
          obtain ⟨xs, m, rfl, hx, hlen, hxl, hget⟩ := DataW.trod_struct hu h
          have hall : ∀ f ∈ fs, ∃ y, DataW.trod enc P w base spare held m f.2 ((cs.drop f.1).take (P.cellsOf f.2)) = some y := by
            intro f hf
            rw [← hfs] at hf
            obtain ⟨g, hg, rfl⟩ := List.mem_map.1 hf
            obtain ⟨i, hi⟩ := List.getElem?_of_mem hg
            have hi' : fields[i]? = some g := by rw [← hi]; simp
            have hlt : i < xs.length := by rw [hxl]; exact (Array.getElem?_eq_some_iff.1 hi').1
            exact ⟨xs[i], by rw [hget i g hi', List.getElem?_eq_getElem hlt]⟩
          have main : ∀ (gs : List (Nat × Nat)) (o : Nat), (∀ f ∈ gs, ∃ y, DataW.trod enc P w base spare held m f.2 ((cs.drop f.1).take (P.cellsOf f.2)) = some y) → gs.all (fun f => sup T n f.2) = true → tile T o gs = some tot → cs.length = tot →
              ∃ cl, RelL (allΦ w) (cs.drop o) cl ∧ TyS (TyL T n) gs cl ∧ o + cl.length = tot := by
            intro gs
            induction gs with
            | nil =>
              intro o _ _ h1 h2
              simp only [tile, Option.some.injEq] at h1
              refine ⟨[], ?_, rfl, by simp [h1]⟩
              rw [List.drop_eq_nil_of_le (by omega)]
              trivial
            | cons f gs ihs =>
              intro o hall' hsup h1 h2
              obtain ⟨fo, ft⟩ := f
              rw [tile] at h1
              cases hbe : Nat.beq fo o with
              | false => rw [hbe] at h1; cases h1
              | true =>
                have := Nat.eq_of_beq_eq_true hbe
                subst this
                rw [hbe, cond_true] at h1
                cases htf : T ft with
                | none => rw [htf] at h1; cases h1
                | some tf =>
                  rw [htf] at h1
                  simp only [Option.bind_some] at h1
                  simp only [List.all_cons, Bool.and_eq_true] at hsup
                  obtain ⟨y, hy⟩ := hall' _ (List.mem_cons_self ..)
                  obtain ⟨c1, a1, a2, a3⟩ := ih ft m _ y hsup.1 hy
                  obtain ⟨c2, b1, b2, b3⟩ := ihs (fo + tf.sz) (fun g hg => hall' g (List.mem_cons_of_mem _ hg)) hsup.2 h1 h2
                  have hl1 := a3 tf htf
                  refine ⟨c1 ++ c2, ?_, ⟨c1, c2, rfl, a2, b2⟩, by simp; omega⟩
                  have e : cs.drop fo = (cs.drop fo).take tf.sz ++ cs.drop (fo + tf.sz) := by
                    rw [← List.drop_drop, List.take_append_drop]
                  rw [e]
                  rw [cellsOf_ti hT htf] at a1
                  exact a1.append b1
          obtain ⟨cl, c1, c2, c3⟩ := main fs 0 hall hs2 htl (by rw [hlen, hz, htot])
          refine ⟨cl, by simpa using c1, c2, fun tj hj => ?_⟩
          obtain rfl := Option.some.inj hj
          omega
      | array k e => rw [hkd] at hs; cases hs
      | ptr e => rw [hkd] at hs; cases hs
      | map k e => rw [hkd] at hs; cases hs
      | func => rw [hkd] at hs; cases hs
      | iface => rw [hkd] at hs; cases hs
      | other => rw [hkd] at hs; cases hs
/-- A slice that came in. -/
theorem read_slice {H : Type} {enc : TypeId × Value → H} {w : World} {base b0 : Nat} {spare : Nat → Bool} {held : Bool} {r : Reach} {t e : Nat} {v : Value} {d : DataW H} {ps : List MemPlace} (n : Nat) (hu : P.underlying t = some (.slice e)) (hs : sup T n t = true)
    (hval : Value.okWide P w r b0 t v) (hd : DataW.Trod enc P w base spare held t v d ps) : ∃ c, Rel (allΦ w) v c ∧ TyL T n t [c] := by
  obtain ⟨a, len, cap, rfl⟩ := okWide_slice hu hval
  obtain ⟨fuel, hf⟩ := hd
  obtain ⟨cl, h1, h2, _⟩ := read hT n t fuel _ _ hs hf
  simp only [Value.cells] at h1
  match cl, h1, h2 with
  | [c], h1, h2 => exact ⟨c, h1.1, h2⟩
end
theorem rows_map {α : Type} {f : α → List Cell} {p : α → Prop} : ∀ {rows : List (List Cell)}, (∀ r ∈ rows, ∃ v, r = f v ∧ p v) → ∃ l : List α, rows = l.map f ∧ ∀ v ∈ l, p v
  | [], _ => ⟨[], rfl, fun v hv => by cases hv⟩
  | r :: rs, h => by
    obtain ⟨v, rfl, hv⟩ := h r (List.mem_cons_self ..)
    obtain ⟨l, rfl, hl⟩ := rows_map fun s hs => h s (List.mem_cons_of_mem _ hs)
    exact ⟨v :: l, rfl, fun u hu => by cases hu with | head => exact hv | tail _ hm => exact hl u hm⟩
/-- arguments, one after the other -/
def ArgsL (Φ : Frz) : List Value → List PV → Prop
  | [], [] => True
  | v :: vs, p :: ps => PRel Φ v p ∧ ArgsL Φ vs ps
  | _, _ => False
theorem ArgsL.rel {Φ : Frz} : ∀ {vs : List Value} {ps : List PV}, ArgsL Φ vs ps → vs.length = ps.length ∧ ∀ (j : Nat) (p : PV), ps[j]? = some p → ∃ v, vs[j]? = some v ∧ PRel Φ v p
  | [], [], _ => ⟨rfl, fun j p h => by simp at h⟩
  | v :: vs, p :: ps, h => by
    obtain ⟨h1, h2⟩ := ArgsL.rel h.2
    refine ⟨by simp [h1], fun j q hq => ?_⟩
    cases j with
    | zero => simp at hq; exact ⟨v, rfl, hq ▸ h.1⟩
    | succ j => simpa using h2 j q (by simpa using hq)
theorem ArgsRel.of {Φ : Frz} {vs : List Value} {ps : List PV} (h : ArgsL Φ vs ps) : ArgsRel Φ vs.toArray ps := ⟨by simpa using h.rel.1, fun j p hp => by simpa using h.rel.2 j p hp⟩
theorem ArgsL.nil {Φ : Frz} : ArgsL Φ [] [] := trivial
theorem ArgsL.cons {Φ : Frz} {v : Value} {vs : List Value} {p : PV} {ps : List PV} (h : PRel Φ v p) (hs : ArgsL Φ vs ps) : ArgsL Φ (v :: vs) (p :: ps) := ⟨h, hs⟩
end Lf
end
section
namespace Go.Proofs.Ytndfnihglpconaa
open Lf Go
open RankLaw
theorem claim_of {n : Nat} {cs : List Cell} (h : TyL TY (n + 2) 47 cs) : ∃ c : Cl, cs = encC c ∧ True := by
  obtain ⟨a1, b1, rfl, t1, a2, b2, rfl, t2, a3, b3, rfl, t3, a4, b4, rfl, t4, rfl⟩ : ∃ a1 b1, cs = a1 ++ b1 ∧ TyL TY (n + 1) 3 a1 ∧ ∃ a2 b2, b1 = a2 ++ b2 ∧ TyL TY (n + 1) 3 a2 ∧ ∃ a3 b3, b2 = a3 ++ b3 ∧ TyL TY (n + 1) 3 a3 ∧ ∃ a4 b4, b3 = a4 ++ b4 ∧ TyL TY (n + 1) 3 a4 ∧ b4 = [] := h
  obtain ⟨i1, rfl, _⟩ : ∃ i, a1 = [.int .i64 i] ∧ (Lit.int .i64 i).wf = true := t1
  obtain ⟨i2, rfl, _⟩ : ∃ i, a2 = [.int .i64 i] ∧ (Lit.int .i64 i).wf = true := t2
  obtain ⟨i3, rfl, _⟩ : ∃ i, a3 = [.int .i64 i] ∧ (Lit.int .i64 i).wf = true := t3
  obtain ⟨i4, rfl, _⟩ : ∃ i, a4 = [.int .i64 i] ∧ (Lit.int .i64 i).wf = true := t4
  exact ⟨⟨i1, i2, i3, i4⟩, rfl, trivial⟩
theorem claims_in {c : Cell} (h : TyL TY 4 27 [c]) : ∃ l : List Cl, c = .sl (l.map encC) ∧ l.length ≤ 9223372036854775807 := by
  obtain ⟨rows, h1, hl, h3⟩ : ∃ rows, [c] = [Cell.sl rows] ∧ rows.length ≤ maxLen ∧ ∀ r ∈ rows, TyL TY 3 47 r := h
  obtain rfl := (List.cons.inj h1).1
  obtain ⟨l, rfl, _⟩ := rows_map (f := encC) (p := fun _ => True) fun r hr => claim_of (n := 1) (h3 r hr)
  exact ⟨l, rfl, by simp only [List.length_map] at hl; unfold maxLen at hl; exact hl⟩
theorem fit_i64 {n : Int} (h : (Lit.int .i64 n).wf = true) : i64B n := bounds_i64 h
end Go.Proofs.Ytndfnihglpconaa
end
section
namespace Go.Proofs.Ytndfnihglpconaa
open Lf Go Go.ChangeShapes Go.WideShapes Go.ChangeAt Go.RowKit
namespace MoreRow
theorem own : ownKnob Try.prog.godebug = none := by kernel_rfl
theorem laidOut : laidOutB Try.prog = true := by kernel_rfl
set_option maxRecDepth 100000 in
theorem lifted (os : Os) (started : os.Started) (H : Type) (enc : TypeId × Value → H) :
    ReturnsInHanded {} Try.checked os 5 .any (Rows.rankMoreSpec.pre6 enc Try.prog Try.f5 Rows.rankMoreRow.domain false) (Rows.rankMoreSpec.post enc Try.prog Try.f5 false true false false) := by
  refine returnsInHanded_of_change (C := Try.checked) own started (by kernel_rfl) Try.func5
    (ChangeSpec.witness6 (enc := enc) (C := Try.checked) false ⟨#[], #[.int .i64 0, .int .i64 0, .slice none 0 0], []⟩ 8 (by kernel_rfl) (by kernel_rfl) (by kernel_rfl) (by kernel_rfl)) ?_
  intro W base args ds gs before hval0 hW hcnd _
  have hval : ∀ (j : Nat) t v, Try.f5.params[j]? = some t → args[j]? = some v → Value.okWide Try.prog W .any base t v := hval0
  have hW' := hW
  obtain ⟨p, q, hA0, hV, rfl, hfz, hnd⟩ := hW
  have hA : DataW.TrodAll enc Try.prog W 0 (fun _ => true) true Try.f5.params.toList args.toList ds p := hA0
  rw [Try.params5] at hA hval
  obtain ⟨v0, vs0, d0, ds0, p0, q0, hargs, rfl, rfl, h0, r0⟩ := trodAll_cons hA
  obtain ⟨v1, vs1, d1, ds1, p1, q1, rfl, rfl, rfl, h1, r1⟩ := trodAll_cons r0
  obtain ⟨v2, vs2, d2, ds2, p2, q2, rfl, rfl, rfl, h2, r2⟩ := trodAll_cons r1
  obtain ⟨rfl, rfl, rfl⟩ := trodAll_nil r2
  obtain rfl : args = #[v0, v1, v2] := by cases args; simp_all
  obtain ⟨rfl, rfl⟩ := trodVars_none hV
  obtain ⟨a0, rfl, rfl, rfl, w0⟩ := open_int Try.underlying3 (hval 0 3 v0 rfl rfl) h0
  obtain ⟨a1, rfl, rfl, rfl, w1⟩ := open_int Try.underlying3 (hval 1 3 v1 rfl rfl) h1
  have k2 := h2
  have lt2 : ∀ x ∈ p2, x.block < W.heap.size := by obtain ⟨m, hm⟩ := k2; exact DataW.trod_lt m _ _ _ hm
  obtain ⟨c2, rel2, ty2⟩ := read_slice TYok 4 Try.underlying27 (by kernel_rfl) (hval 2 27 v2 rfl rfl) h2
  obtain ⟨a2, rfl, w2⟩ := claims_in ty2
  clear hA0 hval0
  have hc := (more_ok a0 a1 a2 (fit_i64 w0) (fit_i64 w1) w2).calls (allΦ W) W #[.int .i64 a0, .int .i64 a1, v2] (fits_all W)
    (ArgsRel.of (ArgsL.cons (Rel.int _ _) (ArgsL.cons (Rel.int _ _) (ArgsL.cons rel2 ArgsL.nil))))
  refine hc.mono fun e W' ⟨v, Φ', he, hv, _, _, _, bel⟩ => ?_
  subst he
  obtain rfl : v = .bool true := AVRel.bool hv
  exact ⟨_, rfl, _, _, _, [], _, [], hW', trodAll_mk1 (shut_bool Try.underlying4 _), (trodAll_cons_mk (shut_int Try.underlying3 w0) (trodAll_cons_mk (shut_int Try.underlying3 w1) (trodAll_cons_mk (Below.trod laidOut (by kernel_rfl) (of_decide_eq_true (by kernel_rfl)) k2 bel lt2) trodAll_mk0))), rfl, bel.frame _, fun h => by cases h⟩
theorem over : Rows.rankMoreRow.holds Try.pinned (OpenSpec.ofChange Rows.rankMoreSpec) :=
  OpenClaim.holds_of_wide 5 Try.f5 rfl rfl rfl rfl rfl rfl rfl ⟨rfl, rfl, rfl, rfl, rfl⟩ rfl rfl rfl rfl rfl (by kernel_rfl) Try.func5 (by kernel_rfl)
    (of_decide_eq_true (by kernel_rfl)) (by unfold Func.isWrapper; first | (rw [if_pos (by decide +kernel)]; kernel_rfl) | (rw [if_neg (by decide +kernel)]; exact ⟨rfl, rfl⟩))
    (fun os started H enc _ => lifted os started H enc)
end MoreRow
theorem rankMore_proved : Rows.RankMoreSaid := MoreRow.over
end Go.Proofs.Ytndfnihglpconaa
end
