/-
  Part 11 of what the proof rests on.
-/
import Derived.Test.YtndfnihglpconaaPS09
import Derived.Test.YtndfnihglpconaaPS02
import Derived.Test.YtndfnihglpconaaPS07
import Derived.Test.YtndfnihglpconaaPS10
import Derived.Test.YtndfnihglpconaaPS05
import Derived.Test.YtndfnihglpconaaPS03
section
set_option linter.unusedVariables false
set_option linter.unusedSimpArgs false
set_option maxHeartbeats 8000000
namespace Go.Proofs.Ytndfnihglpconaa
open Lf Go
attribute [local irreducible] PureOp EffOp Ev RG W Then InBlock Lf.Fin nth App InitE Pick EvL EvD EvP EvR ResL Lf.Lex SubR SubBR FinO FinM ResM ResD FinS val pw digs trimL
section
open RankLaw
structure Fq where
  s : Int
  d : List Int
  s' : Int
  d' : List Int
instance : Inhabited Fq := ⟨⟨0, [], 0, []⟩⟩
def lst (l : List Cl) (R : List Rat) : Nat → Int
  | 0 => 10
  | j + 1 => if nth R j < ((nth l j).amt : Rat) then (if (nth l j).rank ≤ lst l R j then (nth l j).rank else lst l R j) else lst l R j
theorem lst_le (l : List Cl) (R : List Rat) : ∀ j, lst l R j ≤ 10
  | 0 => Int.le_refl _
  | j + 1 => by
    have := lst_le l R j
    rw [lst]
    repeat' split
    all_goals omega
attribute [local irreducible] sgn mag gcdZ quoZ remZ fullZ fullE
theorem cmpR_lt (a b : Rat) : (cmpR a b < 0) ↔ a < b := by
  rcases cmpR_cases a b with h | h | h
  · exact ⟨fun _ => h.2, fun _ => by omega⟩
  · exact ⟨fun _ => by omega, fun k => by have := h.2; grind⟩
  · exact ⟨fun _ => by omega, fun k => by have := h.2; grind⟩
theorem pshort_ok (l : List Cl) (R : List Rat) (hc : rightC l = true) (hR : R.length = l.length) (ho : ∀ r ∈ R, okF r) : ACalls Try.prog 11 [slC l, slQ R] (.tup [cI (if lst l R l.length = 10 then 0 else lst l R l.length), cB (decide (lst l R l.length ≠ 10))]) := by
  obtain ⟨hok, ha, hl⟩ := rightC_yes hc
  have p1 := pright_ok l (by omega)
  rw [hc] at p1
  refine ACalls.of_W (qs := [cI (if lst l R l.length = 10 then 0 else lst l R l.length), cB (decide (lst l R l.length ≠ 10))]) [4, 5] 49 Try.func11 (by kernel_rfl) rfl rfl rfl fun G => ?_
  refine W.initA (hw := ?_)
  repeat' (first | ((first | apply U_ | (apply Ug_; exact rfl; exact rfl) | (apply Ugq_; exact rfl; exact rfl) | apply Lex.u | (apply Lex.g; exact rfl; exact rfl) | (apply Lex.gq; exact rfl; exact rfl)); (first | exact QX.B TYok | exact QX.Num TYok | exact QX.Len TYok | exact QX.Idx TYok | exact QCd (p1)); exact rfl) | refine SX.Alloc TYok (h := ?_) | refine SX.Store TYok (h := ?_) | refine SC ?_ | (apply S_isnil TYok; exact rfl; exact rfl; exact rfl; exact Ev.auto; intro bn hnil) | refine SG ?_ | (apply W.draw2 (id := 9) [0, 0, 3, 7, 0, 16, 48, 127, 255] [[1], [7], [32, 33], [34], [8], [36], [37], [35, 38], [39]] 9 [(32, 2), (33, 128), (34, 12884901888), (35, 17179869184), (36, 256), (37, 68719476736), (38, 137438953472), (39, 309237645312), (40, 549755813888)] mixed (by kernel_rfl) rfl rfl) | (refine W.condA (ht := fun hb => ?_) (hf := fun hb => ?_) <;> (try simp at hb) <;> (try (exfalso; omega))))
  apply W.loopP (σ := Nat) 49 [1, 19, 20] (fun z => z ≤ l.length) (fun z => [(21, vI z), (6, vI (lst l R z))]) (fun _ => []) (fun z => l.length - z) (0)
  case hp => repeat (first | exact Pick.nil | apply Pick.cons rfl)
  case h0 =>
    refine ⟨by omega, ?_⟩
    exact Le.auto
  case round =>
    rintro j g1
    apply W.norm (by repeat (first | exact App.nil | apply App.cons))
    by_cases hj : j < l.length
    · have c := amt_nth ha hj
      have or := ho _ (nth_mem (l := R) (show j < R.length by omega))
      have r1 := fright_yes (nth R j) or
      have w1 := whole_ok (nth l j).amt (by unfold i64B; omega)
      have f1 := fcmp_ok (nth R j) ((nth l j).amt : Rat) or (okF_int (by unfold i64B; omega))
      have hlt := cmpR_lt (nth R j) ((nth l j).amt : Rat)
      have e1 : lst l R (j + 1) = if cmpR (nth R j) ((nth l j).amt : Rat) < 0 then min (lst l R j) (nth l j).rank else lst l R j := by
        rw [lst]
        by_cases h : nth R j < ((nth l j).amt : Rat)
        · rw [if_pos h, if_pos (hlt.2 h)]; split <;> omega
        · rw [if_neg h, if_neg fun k => h (hlt.1 k)]
      clear hlt
      generalize lst l R j = m at *
      generalize cmpR (nth R j) ((nth l j).amt : Rat) = C at *
      repeat' (first | ((first | apply U_ | (apply Ug_; exact rfl; exact rfl) | (apply Ugq_; exact rfl; exact rfl) | apply Lex.u | (apply Lex.g; exact rfl; exact rfl) | (apply Lex.gq; exact rfl; exact rfl)); (first | exact QX.B TYok | exact QX.Num TYok | exact QX.Len TYok | exact QX.Idx TYok | exact QCd (r1) | exact QCd (w1) | exact QCd (f1)); exact rfl) | refine SX.Alloc TYok (h := ?_) | refine SX.Store TYok (h := ?_) | refine SC ?_ | (apply S_isnil TYok; exact rfl; exact rfl; exact rfl; exact Ev.auto; intro bn hnil) | refine SG ?_ | (apply W.draw2 (id := 9) [0, 0, 3, 7, 0, 16, 48, 127, 255] [[1], [7], [32, 33], [34], [8], [36], [37], [35, 38], [39]] 9 [(32, 2), (33, 128), (34, 12884901888), (35, 17179869184), (36, 256), (37, 68719476736), (38, 137438953472), (39, 309237645312), (40, 549755813888)] mixed (by kernel_rfl) rfl rfl) | (refine W.condA (ht := fun hb => ?_) (hf := fun hb => ?_) <;> (try simp at hb) <;> (try (exfalso; omega))))
      all_goals first
        | (refine ⟨j + 1, by omega, ?_, by omega⟩; (try dsimp only); rw [e1, if_neg (by omega)]; exact Le.auto)
        | (refine ⟨j + 1, by omega, ?_, by omega⟩; (try dsimp only); rw [e1, if_pos (by omega)]; exact Le.auto)
        | trace_state
    · obtain rfl : j = l.length := by omega
      have hle := lst_le l R l.length
      generalize lst l R l.length = m at *
      by_cases h10 : m = 10
      · subst h10
        rw [if_pos rfl, decide_eq_false (by simp)]
        repeat' (first | ((first | apply U_ | (apply Ug_; exact rfl; exact rfl) | (apply Ugq_; exact rfl; exact rfl) | apply Lex.u | (apply Lex.g; exact rfl; exact rfl) | (apply Lex.gq; exact rfl; exact rfl)); (first | exact QX.B TYok | exact QX.Num TYok | exact QX.Len TYok | exact QX.Idx TYok); exact rfl) | refine SX.Alloc TYok (h := ?_) | refine SX.Store TYok (h := ?_) | refine SC ?_ | (apply S_isnil TYok; exact rfl; exact rfl; exact rfl; exact Ev.auto; intro bn hnil) | refine SG ?_ | (apply W.draw2 (id := 9) [0, 0, 3, 7, 0, 16, 48, 127, 255] [[1], [7], [32, 33], [34], [8], [36], [37], [35, 38], [39]] 9 [(32, 2), (33, 128), (34, 12884901888), (35, 17179869184), (36, 256), (37, 68719476736), (38, 137438953472), (39, 309237645312), (40, 549755813888)] mixed (by kernel_rfl) rfl rfl) | (refine W.condA (ht := fun hb => ?_) (hf := fun hb => ?_) <;> (try simp at hb) <;> (try (exfalso; omega))))
        all_goals exact Fin.ret ResL.auto
      · rw [if_neg h10, decide_eq_true h10]
        repeat' (first | ((first | apply U_ | (apply Ug_; exact rfl; exact rfl) | (apply Ugq_; exact rfl; exact rfl) | apply Lex.u | (apply Lex.g; exact rfl; exact rfl) | (apply Lex.gq; exact rfl; exact rfl)); (first | exact QX.B TYok | exact QX.Num TYok | exact QX.Len TYok | exact QX.Idx TYok); exact rfl) | refine SX.Alloc TYok (h := ?_) | refine SX.Store TYok (h := ?_) | refine SC ?_ | (apply S_isnil TYok; exact rfl; exact rfl; exact rfl; exact Ev.auto; intro bn hnil) | refine SG ?_ | (apply W.draw2 (id := 9) [0, 0, 3, 7, 0, 16, 48, 127, 255] [[1], [7], [32, 33], [34], [8], [36], [37], [35, 38], [39]] 9 [(32, 2), (33, 128), (34, 12884901888), (35, 17179869184), (36, 256), (37, 68719476736), (38, 137438953472), (39, 309237645312), (40, 549755813888)] mixed (by kernel_rfl) rfl rfl) | (refine W.condA (ht := fun hb => ?_) (hf := fun hb => ?_) <;> (try simp at hb) <;> (try (exfalso; omega))))
        all_goals exact Fin.ret ResL.auto
end
end Go.Proofs.Ytndfnihglpconaa
end
section
set_option linter.unusedVariables false
set_option linter.unusedSimpArgs false
set_option maxHeartbeats 8000000
namespace Go.Proofs.Ytndfnihglpconaa
open Lf Go
attribute [local irreducible] PureOp EffOp Ev RG W Then InBlock Lf.Fin nth App InitE Pick EvL EvD EvP EvR ResL Lf.Lex SubR SubBR FinO FinM ResM ResD FinS val pw digs trimL
section
open RankLaw
def smp : List Cl := [⟨0, -1, 0, 30⟩, ⟨0, -1, 0, 60⟩, ⟨0, -1, 1, 10⟩]
theorem smp_right : rightC smp = true := by decide +kernel
theorem smp_pay : payL (Rat.divInt 45 1) smp = [Rat.divInt 15 1, Rat.divInt 30 1, Rat.divInt 0 1] ∧ payL (Rat.divInt 95 1) smp = [Rat.divInt 30 1, Rat.divInt 60 1, Rat.divInt 5 1] ∧ payL (Rat.divInt 200 1) smp = [Rat.divInt 30 1, Rat.divInt 60 1, Rat.divInt 10 1] ∧ payL (Rat.divInt 1 2) smp = [Rat.divInt 1 6, Rat.divInt 1 3, Rat.divInt 0 1] := by decide +kernel
theorem smp_lst : lst smp [Rat.divInt 15 1, Rat.divInt 30 1, Rat.divInt 0 1] 3 = 0 ∧ lst smp [Rat.divInt 30 1, Rat.divInt 60 1, Rat.divInt 5 1] 3 = 1 ∧ lst smp [Rat.divInt 30 1, Rat.divInt 60 1, Rat.divInt 10 1] 3 = 10 := by decide +kernel
theorem payC_bd {r : Rat} (hr : bd r 20) {l : List Cl} (h : amtOk l) (hl : l.length ≤ 2000) {c : Cl} (hc : c ∈ l) : bd (payC r l c) 33 := by
  have sk := sums_rng h hl c.rank
  have ca := h c hc
  have oA := int_bd (n := less l c.rank) (by omega)
  have oS := int_bd (n := same l c.rank) (by omega)
  have oC := int_bd (n := c.amt) (by omega)
  unfold payC pay
  split
  · exact bd_mono (int_bd (n := 0) (by omega)) (by omega)
  · split
    · exact bd_mono oC (by omega)
    · rename_i h1 h2
      have sb := sub_bd (k := 24) (by omega) hr oA (by omega)
      have m2 := mul_bd (k := 29) (by omega) oC sb.1 (by omega)
      have hS0 : ((same l c.rank : Int) : Rat).num ≠ 0 := fun h => by
        have e : same l c.rank = 0 := h
        rw [e] at h2
        rw [Int.add_zero] at h2
        grind
      exact (div_bd (k := 33) (by omega) m2.1 oS hS0 (by omega)).1
theorem payL_ok {r : Rat} (hr : bd r 20) {l : List Cl} (h : amtOk l) (hl : l.length ≤ 2000) : ∀ x ∈ payL r l, okF x := fun x hx => by
  rw [payL_eq] at hx
  obtain ⟨c, hc, rfl⟩ := List.mem_map.1 hx
  exact bd_ok (payC_bd hr h hl hc) (by omega)
theorem payL_len (r : Rat) (l : List Cl) : (payL r l).length = l.length := by simp [payL]
theorem payL_nth (r : Rat) {l : List Cl} {i : Nat} (hi : i < l.length) : nth (payL r l) i = payC r l (nth l i) := by
  rw [nth_eq (by rw [payL_len]; exact hi), nth_eq hi]
  simp only [payL_eq, List.getElem_map]
attribute [local irreducible] sgn mag gcdZ quoZ remZ fullZ fullE
theorem of_ok (n m : Int) (h : i64B n) (hm : i64B m) (h0 : m ≠ 0) : ACalls Try.prog 19 [cI n, cI m] (.pv (zF (Rat.divInt n m))) := by
  have n1 := qOf_ok n m h hm h0
  generalize Rat.divInt n m = r at *
  refine ACalls.of_M TYok (qs := [zF r]) [.cell 4 26] 8 Try.func19 (by kernel_rfl) rfl rfl rfl fun G => ?_
  refine W.initA (hw := ?_)
  repeat' (first | ((first | apply U_); (first | exact QX.B TYok | exact QCd (n1)); exact rfl) | refine SX.Alloc TYok (h := ?_) | refine SX.Store TYok (h := ?_) | refine SC ?_ | (refine W.condA (ht := fun hb => ?_) (hf := fun hb => ?_) <;> (try simp at hb) <;> (try (exfalso; omega))))
  all_goals exact FinM.ret ResM.auto
theorem ofw_ok (n : Int) (h : i64B n) : ACalls Try.prog 19 [cI n, cI 1] (.pv (zF (n : Rat))) := by
  rw [← divInt_one]
  exact of_ok n 1 h (by unfold i64B; omega) (by omega)
theorem sample_ok : ACalls Try.prog 24 [] (.pv (slC smp)) := by
  refine ACalls.of_W (qs := [slC smp]) [0] 5 Try.func24 (by kernel_rfl) rfl rfl rfl fun G => ?_
  refine W.initA (hw := ?_)
  repeat' (first | ((first | apply U_); (first | (apply Q_litD TYok; (repeat (first | exact EvR.nil | apply EvR.cons Ev.auto)); exact rfl; exact rfl; exact rfl; exact rfl; exact rfl; exact rfl) | exact QX.B TYok | exact QX.Build TYok); exact rfl) | refine SX.Lit TYok (h := ?_) | refine SC ?_ | (refine W.condA (ht := fun hb => ?_) (hf := fun hb => ?_) <;> (try simp at hb) <;> (try (exfalso; omega))))
  all_goals first
    | exact Fin.ret ResL.auto
    | trace_state
theorem same_refl (L : List Rat) (h : ∀ r ∈ L, okF r) (hl : L.length ≤ 1000000) : ACalls Try.prog 13 [slQ L, slQ L] (.pv (cB true)) := by
  have := sameQ_ok L L h h hl hl
  rwa [decide_eq_true rfl] at this
theorem okF3 {p q : Int} (hp : i64B p) (hq : i64B q) (h : q ≠ 0) : okF (Rat.divInt p q) := okF_of (i64_ok hp) (i64_ok hq) h
theorem bdc {p q : Int} (hp : -1208925819614629174706176 < p ∧ p < 1208925819614629174706176) (hq : -1208925819614629174706176 < q ∧ q < 1208925819614629174706176) (h : q ≠ 0) : bd (Rat.divInt p q) 20 := by
  have e := pw4
  exact bd_mono (bd_div (n := 4) h (by omega) (by omega)) (by omega)
theorem small_ok : ACalls Try.prog 7 [] (.pv (cB true)) := by
  have s0 := sample_ok
  obtain ⟨e1, e2, e3, e4⟩ := smp_pay
  obtain ⟨l1, l2, l3⟩ := smp_lst
  have ix : ∀ n : Int, (-1000 ≤ n ∧ n ≤ 1000) → i64B n := fun n h => by unfold i64B; omega
  have o1 := of_ok 45 1 (ix _ (by omega)) (ix _ (by omega)) (by omega)
  have o2 := of_ok 95 1 (ix _ (by omega)) (ix _ (by omega)) (by omega)
  have o3 := of_ok 200 1 (ix _ (by omega)) (ix _ (by omega)) (by omega)
  have o4 := of_ok 1 2 (ix _ (by omega)) (ix _ (by omega)) (by omega)
  have o5 := of_ok 15 1 (ix _ (by omega)) (ix _ (by omega)) (by omega)
  have o6 := of_ok 30 1 (ix _ (by omega)) (ix _ (by omega)) (by omega)
  have o7 := of_ok 0 1 (ix _ (by omega)) (ix _ (by omega)) (by omega)
  have o8 := of_ok 60 1 (ix _ (by omega)) (ix _ (by omega)) (by omega)
  have o9 := of_ok 5 1 (ix _ (by omega)) (ix _ (by omega)) (by omega)
  have o10 := of_ok 10 1 (ix _ (by omega)) (ix _ (by omega)) (by omega)
  have o11 := of_ok 1 6 (ix _ (by omega)) (ix _ (by omega)) (by omega)
  have o12 := of_ok 1 3 (ix _ (by omega)) (ix _ (by omega)) (by omega)
  have nn : ∀ {p q : Int}, 0 ≤ p → 0 < q → (0 : Rat) ≤ Rat.divInt p q := fun {p q} hp hq => Rat.divInt_nonneg hp (by omega)
  have p1 := split_ok _ smp (bdc (p := 45) (q := 1) (by omega) (by omega) (by omega)) (nn (by omega) (by omega)) smp_right
  have p2 := split_ok _ smp (bdc (p := 95) (q := 1) (by omega) (by omega) (by omega)) (nn (by omega) (by omega)) smp_right
  have p3 := split_ok _ smp (bdc (p := 200) (q := 1) (by omega) (by omega) (by omega)) (nn (by omega) (by omega)) smp_right
  have p4 := split_ok _ smp (bdc (p := 1) (q := 2) (by omega) (by omega) (by omega)) (nn (by omega) (by omega)) smp_right
  rw [e1] at p1
  rw [e2] at p2
  rw [e3] at p3
  rw [e4] at p4
  have k5 := okF3 (p := 15) (q := 1) (ix _ (by omega)) (ix _ (by omega)) (by omega)
  have k6 := okF3 (p := 30) (q := 1) (ix _ (by omega)) (ix _ (by omega)) (by omega)
  have k7 := okF3 (p := 0) (q := 1) (ix _ (by omega)) (ix _ (by omega)) (by omega)
  have k8 := okF3 (p := 60) (q := 1) (ix _ (by omega)) (ix _ (by omega)) (by omega)
  have k9 := okF3 (p := 5) (q := 1) (ix _ (by omega)) (ix _ (by omega)) (by omega)
  have k10 := okF3 (p := 10) (q := 1) (ix _ (by omega)) (ix _ (by omega)) (by omega)
  have k11 := okF3 (p := 1) (q := 6) (ix _ (by omega)) (ix _ (by omega)) (by omega)
  have k12 := okF3 (p := 1) (q := 3) (ix _ (by omega)) (ix _ (by omega)) (by omega)
  have t3 : ∀ {a b c : Rat}, okF a → okF b → okF c → ∀ r ∈ [a, b, c], okF r := fun {a b c} h1 h2 h3 r hr => by
    rcases List.mem_cons.1 hr with rfl | hr
    · exact h1
    rcases List.mem_cons.1 hr with rfl | hr
    · exact h2
    rcases List.mem_cons.1 hr with rfl | hr
    · exact h3
    · cases hr
  have h1 := pshort_ok smp _ smp_right rfl (t3 k5 k6 k7)
  have h2 := pshort_ok smp _ smp_right rfl (t3 k6 k8 k9)
  have h3 := pshort_ok smp _ smp_right rfl (t3 k6 k8 k10)
  rw [show smp.length = 3 from rfl, l1] at h1
  rw [show smp.length = 3 from rfl, l2] at h2
  rw [show smp.length = 3 from rfl, l3] at h3
  replace h1 : ACalls Try.prog 11 [slC smp, slQ _] (.tup [cI 0, cB true]) := h1
  replace h2 : ACalls Try.prog 11 [slC smp, slQ _] (.tup [cI 1, cB true]) := h2
  replace h3 : ACalls Try.prog 11 [slC smp, slQ _] (.tup [cI 0, cB false]) := h3
  have s1 := same_refl _ (t3 k5 k6 k7) (by decide)
  have s2 := same_refl _ (t3 k6 k8 k9) (by decide)
  have s3 := same_refl _ (t3 k6 k8 k10) (by decide)
  have s4 := same_refl _ (t3 k11 k12 k7) (by decide)
  clear k5 k6 k7 k8 k9 k10 k11 k12 t3 nn ix l1 l2 l3 e1 e2 e3 e4
  generalize Rat.divInt 45 1 = r1 at *
  generalize Rat.divInt 95 1 = r2 at *
  generalize Rat.divInt 200 1 = r3 at *
  generalize Rat.divInt 1 2 = r4 at *
  generalize Rat.divInt 15 1 = r5 at *
  generalize Rat.divInt 30 1 = r6 at *
  generalize Rat.divInt 0 1 = r7 at *
  generalize Rat.divInt 60 1 = r8 at *
  generalize Rat.divInt 5 1 = r9 at *
  generalize Rat.divInt 10 1 = r10 at *
  generalize Rat.divInt 1 6 = r11 at *
  generalize Rat.divInt 1 3 = r12 at *
  generalize smp = S at *
  refine ACalls.of_W (qs := [cB true]) [0] 125 Try.func7 (by kernel_rfl) rfl rfl rfl fun G => ?_
  refine W.initA (hw := ?_)
  repeat' (first | ((first | apply U_ | (apply Ug_; exact rfl; exact rfl) | (apply Ugq_; exact rfl; exact rfl)); (first | (apply Q_litD TYok; (repeat (first | exact EvR.nil | apply EvR.cons Ev.auto)); exact rfl; exact rfl; exact rfl; exact rfl; exact rfl; exact rfl) | exact QX.B TYok | exact QX.Ext TYok | exact QCd (s0) | exact QCd (o1) | exact QCd (o2) | exact QCd (o3) | exact QCd (o4) | exact QCd (o5) | exact QCd (o6) | exact QCd (o7) | exact QCd (o8) | exact QCd (o9) | exact QCd (o10) | exact QCd (o11) | exact QCd (o12) | exact QCd (p1) | exact QCd (p2) | exact QCd (p3) | exact QCd (p4) | exact QCd (h1) | exact QCd (h2) | exact QCd (h3) | exact QCd (s1) | exact QCd (s2) | exact QCd (s3) | exact QCd (s4)); exact rfl) | refine SX.Lit TYok (h := ?_) | refine SC ?_ | (apply S_isnil TYok; exact rfl; exact rfl; exact rfl; exact Ev.auto; intro bn hnil) | refine SG ?_ | (refine W.condA (ht := fun hb => ?_) (hf := fun hb => ?_) <;> (try simp at hb) <;> (try (exfalso; omega))))
  all_goals first
    | exact Fin.ret ResL.auto
    | trace_state
end
end Go.Proofs.Ytndfnihglpconaa
end
section
set_option linter.unusedVariables false
set_option linter.unusedSimpArgs false
set_option maxHeartbeats 8000000
namespace Go.Proofs.Ytndfnihglpconaa
open Lf Go
attribute [local irreducible] PureOp EffOp Ev RG W Then InBlock Lf.Fin nth App InitE Pick EvL EvD EvP EvR ResL Lf.Lex SubR SubBR FinO FinM ResM ResD FinS val pw digs trimL
section
open RankLaw
attribute [local irreducible] sgn mag gcdZ quoZ remZ fullZ fullE
theorem few0_ok (l : List Cl) (hl : l.length ≤ 9223372036854775807) : ∃ b, ACalls Try.prog 8 [zF ((0 : Int) : Rat), slC l] (.pv (cB b)) ∧ (b = true → l.length ≤ 20) := by
  have h := num_len (okF_int (n := 0) (by unfold i64B; omega)).1
  have h2 := num_len (okF_int (n := 0) (by unfold i64B; omega)).2
  refine ⟨_, rfew_ok _ _ _ _ l (by omega) (by omega) hl, fun h => ?_⟩
  simp only [Bool.and_eq_true, decide_eq_true_iff] at h
  omega
end
end Go.Proofs.Ytndfnihglpconaa
end
section
set_option linter.unusedVariables false
namespace Lf
open Go
section
variable {P : Program} {G : Ghost} {T : Nat → Option TI} (hT : TOK P T) {n0 : Nat} {env : List (Nat × (Prop × AV))} {bl : List (Nat × Blk)} {ops : Array Oper} {rest : List Oper} {Q : St → Prop} {ty : TypeId} {pos : String} {after : Array Edge}
include hT
theorem S_storemf {α : Type} {t n i off E sz : Nat} {x y : Operand} {ti : TI} {l : List α} {f : α → List Cell} (v : α) {q : PV} (I : Inhabited α) (hx : Ev (St.mk n0 env bl) True x (.addr n i off)) (hy : Ev (St.mk n0 env bl) True y (.pv q)) (ht : T t = some ti)
    (hl : lk bl n = some ⟨E, sz, l.map f⟩) (hi : i < l.length) (hq : q.cells.length = ti.sz) (hfit : Nat.ble (off + ti.sz) (f (nth l i)).length = true) (hv : splice (f (nth l i)) off q.cells = f v)
    (h : RG P G ops rest Q (St.mk n0 env ((n, ⟨E, sz, (l.set i v).map f⟩) :: bl))) :
    RG P G ops (⟨none, .store t x y, ty, pos, after, none⟩ :: rest) Q (St.mk n0 env bl) := by
  have hn : nth l i = l[i] := by simp [nth, List.getD, List.getElem?_eq_getElem hi]
  have hr : (l.map f)[i]? = some (f (nth l i)) := by rw [hn]; simp [List.getElem?_eq_getElem hi]
  refine S_store hT hx hy ht hl hr hq hfit ?_
  have e : (l.map f).set i (splice (f (nth l i)) off q.cells) = (l.set i v).map f := by rw [hv, List.map_set]
  show RG P G ops rest Q (St.mk n0 env ((n, ⟨E, sz, (l.map f).set i (splice (f (nth l i)) off q.cells)⟩) :: bl))
  rw [e]; exact h
end
end Lf
end
