/-
  RankTells: the row: what came in is read, the contract of the function gives true, and what came in stands.
-/
import Derived.Test.YtndfnihglpconaaTS11
import Derived.Test.YtndfnihglpconaaTS12
import Derived.Test.YtndfnihglpconaaTS13
import Derived.Test.YtndfnihglpconaaTS05
import Derived.Test.YtndfnihglpconaaTS03
import Derived.ProofKit
import Derived.OpenShut
import Derived.Carry
section
set_option linter.unusedVariables false
set_option linter.unusedSimpArgs false
set_option maxHeartbeats 8000000
namespace Go.Proofs.Ytndfnihglpconaa
open Lf Go
attribute [local irreducible] PureOp EffOp Ev RG W Then InBlock Lf.Fin nth App InitE Pick SubE EvL EvD EvP EvR ResL Lf.Lex SubR SubBR FinO FinM ResM ResD FinS val pw digs trimL
section
open RankLaw
def smp : List Cl := [⟨0, -1, 0, 30⟩, ⟨0, -1, 0, 60⟩, ⟨0, -1, 1, 10⟩]
theorem smp_right : rightC smp = true := by decide +kernel
theorem smp_pay : payL (Rat.divInt 45 1) smp = [Rat.divInt 15 1, Rat.divInt 30 1, Rat.divInt 0 1] ∧ payL (Rat.divInt 95 1) smp = [Rat.divInt 30 1, Rat.divInt 60 1, Rat.divInt 5 1] ∧ payL (Rat.divInt 200 1) smp = [Rat.divInt 30 1, Rat.divInt 60 1, Rat.divInt 10 1] ∧ payL (Rat.divInt 1 2) smp = [Rat.divInt 1 6, Rat.divInt 1 3, Rat.divInt 0 1] := by decide +kernel
theorem smp_lst : lst smp [Rat.divInt 15 1, Rat.divInt 30 1, Rat.divInt 0 1] 3 = 0 ∧ lst smp [Rat.divInt 30 1, Rat.divInt 60 1, Rat.divInt 5 1] 3 = 1 ∧ lst smp [Rat.divInt 30 1, Rat.divInt 60 1, Rat.divInt 10 1] 3 = 10 := by decide +kernel
theorem payC_bd {r : Rat} (hr : bd r 20) {l : List Cl} (h : amtOk l) (hl : l.length ≤ 2000) {c : Cl} (hc : c ∈ l) : bd (payC r l c) 33 := by
  have sk := sums_rng h hl c.rank
  have ca := h c hc
  have oA := int_bd (n := less l c.rank) (by omega)
  have oS := int_bd (n := same l c.rank) (by omega)
  have oC := int_bd (n := c.amt) (by omega)
  unfold payC pay
  split
  · exact bd_mono (int_bd (n := 0) (by omega)) (by omega)
  · split
    · exact bd_mono oC (by omega)
    · rename_i h1 h2
      have sb := sub_bd (k := 24) (by omega) hr oA (by omega)
      have m2 := mul_bd (k := 29) (by omega) oC sb.1 (by omega)
      have hS0 : ((same l c.rank : Int) : Rat).num ≠ 0 := fun h => by
        have e : same l c.rank = 0 := h
        rw [e] at h2
        rw [Int.add_zero] at h2
        grind
      exact (div_bd (k := 33) (by omega) m2.1 oS hS0 (by omega)).1
theorem payL_ok {r : Rat} (hr : bd r 20) {l : List Cl} (h : amtOk l) (hl : l.length ≤ 2000) : ∀ x ∈ payL r l, okF x := fun x hx => by
  rw [payL_eq] at hx
  obtain ⟨c, hc, rfl⟩ := List.mem_map.1 hx
  exact bd_ok (payC_bd hr h hl hc) (by omega)
theorem payL_len (r : Rat) (l : List Cl) : (payL r l).length = l.length := by simp [payL]
attribute [local irreducible] sgn mag gcdZ quoZ remZ fullZ fullE
theorem of_ok (n m : Int) (h : i64B n) (hm : i64B m) (h0 : m ≠ 0) : ACalls Try.prog 19 [cI n, cI m] (.pv (zF (Rat.divInt n m))) := by
  have n1 := qOf_ok n m h hm h0
  generalize Rat.divInt n m = r at *
  refine ACalls.of_M TYok (qs := [zF r]) [.cell 4 26] 8 Try.func19 (by kernel_rfl) rfl rfl rfl fun G => ?_
  refine W.initA (hw := ?_)
  repeat' (first | ((first | apply U_); (first | exact QX.B TYok | exact QCd (n1)); exact rfl) | refine SX.Alloc TYok (h := ?_) | refine SX.Store TYok (h := ?_) | refine SC ?_ | (refine W.condA (ht := fun hb => ?_) (hf := fun hb => ?_) <;> (try simp at hb) <;> (try (exfalso; omega))))
  all_goals exact FinM.ret ResM.auto
theorem sample_ok : ACalls Try.prog 24 [] (.pv (slC smp)) := by
  refine ACalls.of_W (qs := [slC smp]) [0] 5 Try.func24 (by kernel_rfl) rfl rfl rfl fun G => ?_
  refine W.initA (hw := ?_)
  repeat' (first | ((first | apply U_); (first | (apply Q_litD TYok; (repeat (first | exact EvR.nil | apply EvR.cons Ev.auto)); exact rfl; exact rfl; exact rfl; exact rfl; exact rfl; exact rfl) | exact QX.B TYok | exact QX.Build TYok); exact rfl) | refine SX.Lit TYok (h := ?_) | refine SC ?_ | (refine W.condA (ht := fun hb => ?_) (hf := fun hb => ?_) <;> (try simp at hb) <;> (try (exfalso; omega))))
  all_goals first
    | exact Fin.ret ResL.auto
    | trace_state
theorem same_refl (L : List Rat) (h : ∀ r ∈ L, okF r) (hl : L.length ≤ 1000000) : ACalls Try.prog 13 [slQ L, slQ L] (.pv (cB true)) := by
  have := sameQ_ok L L h h hl hl
  rwa [decide_eq_true rfl] at this
theorem okF3 {p q : Int} (hp : i64B p) (hq : i64B q) (h : q ≠ 0) : okF (Rat.divInt p q) := okF_of (i64_ok hp) (i64_ok hq) h
theorem bdc {p q : Int} (hp : -1208925819614629174706176 < p ∧ p < 1208925819614629174706176) (hq : -1208925819614629174706176 < q ∧ q < 1208925819614629174706176) (h : q ≠ 0) : bd (Rat.divInt p q) 20 := by
  have e := pw4
  exact bd_mono (bd_div (n := 4) h (by omega) (by omega)) (by omega)
theorem small_ok : ACalls Try.prog 7 [] (.pv (cB true)) := by
  have s0 := sample_ok
  obtain ⟨e1, e2, e3, e4⟩ := smp_pay
  obtain ⟨l1, l2, l3⟩ := smp_lst
  have ix : ∀ n : Int, (-1000 ≤ n ∧ n ≤ 1000) → i64B n := fun n h => by unfold i64B; omega
  have o1 := of_ok 45 1 (ix _ (by omega)) (ix _ (by omega)) (by omega)
  have o2 := of_ok 95 1 (ix _ (by omega)) (ix _ (by omega)) (by omega)
  have o3 := of_ok 200 1 (ix _ (by omega)) (ix _ (by omega)) (by omega)
  have o4 := of_ok 1 2 (ix _ (by omega)) (ix _ (by omega)) (by omega)
  have o5 := of_ok 15 1 (ix _ (by omega)) (ix _ (by omega)) (by omega)
  have o6 := of_ok 30 1 (ix _ (by omega)) (ix _ (by omega)) (by omega)
  have o7 := of_ok 0 1 (ix _ (by omega)) (ix _ (by omega)) (by omega)
  have o8 := of_ok 60 1 (ix _ (by omega)) (ix _ (by omega)) (by omega)
  have o9 := of_ok 5 1 (ix _ (by omega)) (ix _ (by omega)) (by omega)
  have o10 := of_ok 10 1 (ix _ (by omega)) (ix _ (by omega)) (by omega)
  have o11 := of_ok 1 6 (ix _ (by omega)) (ix _ (by omega)) (by omega)
  have o12 := of_ok 1 3 (ix _ (by omega)) (ix _ (by omega)) (by omega)
  have nn : ∀ {p q : Int}, 0 ≤ p → 0 < q → (0 : Rat) ≤ Rat.divInt p q := fun {p q} hp hq => Rat.divInt_nonneg hp (by omega)
  have p1 := split_ok _ smp (bdc (p := 45) (q := 1) (by omega) (by omega) (by omega)) (nn (by omega) (by omega)) smp_right
  have p2 := split_ok _ smp (bdc (p := 95) (q := 1) (by omega) (by omega) (by omega)) (nn (by omega) (by omega)) smp_right
  have p3 := split_ok _ smp (bdc (p := 200) (q := 1) (by omega) (by omega) (by omega)) (nn (by omega) (by omega)) smp_right
  have p4 := split_ok _ smp (bdc (p := 1) (q := 2) (by omega) (by omega) (by omega)) (nn (by omega) (by omega)) smp_right
  rw [e1] at p1
  rw [e2] at p2
  rw [e3] at p3
  rw [e4] at p4
  have k5 := okF3 (p := 15) (q := 1) (ix _ (by omega)) (ix _ (by omega)) (by omega)
  have k6 := okF3 (p := 30) (q := 1) (ix _ (by omega)) (ix _ (by omega)) (by omega)
  have k7 := okF3 (p := 0) (q := 1) (ix _ (by omega)) (ix _ (by omega)) (by omega)
  have k8 := okF3 (p := 60) (q := 1) (ix _ (by omega)) (ix _ (by omega)) (by omega)
  have k9 := okF3 (p := 5) (q := 1) (ix _ (by omega)) (ix _ (by omega)) (by omega)
  have k10 := okF3 (p := 10) (q := 1) (ix _ (by omega)) (ix _ (by omega)) (by omega)
  have k11 := okF3 (p := 1) (q := 6) (ix _ (by omega)) (ix _ (by omega)) (by omega)
  have k12 := okF3 (p := 1) (q := 3) (ix _ (by omega)) (ix _ (by omega)) (by omega)
  have t3 : ∀ {a b c : Rat}, okF a → okF b → okF c → ∀ r ∈ [a, b, c], okF r := fun {a b c} h1 h2 h3 r hr => by
    rcases List.mem_cons.1 hr with rfl | hr
    · exact h1
    rcases List.mem_cons.1 hr with rfl | hr
    · exact h2
    rcases List.mem_cons.1 hr with rfl | hr
    · exact h3
    · cases hr
  have h1 := pshort_ok smp _ smp_right rfl (t3 k5 k6 k7)
  have h2 := pshort_ok smp _ smp_right rfl (t3 k6 k8 k9)
  have h3 := pshort_ok smp _ smp_right rfl (t3 k6 k8 k10)
  rw [show smp.length = 3 from rfl, l1] at h1
  rw [show smp.length = 3 from rfl, l2] at h2
  rw [show smp.length = 3 from rfl, l3] at h3
  replace h1 : ACalls Try.prog 11 [slC smp, slQ _] (.tup [cI 0, cB true]) := h1
  replace h2 : ACalls Try.prog 11 [slC smp, slQ _] (.tup [cI 1, cB true]) := h2
  replace h3 : ACalls Try.prog 11 [slC smp, slQ _] (.tup [cI 0, cB false]) := h3
  have s1 := same_refl _ (t3 k5 k6 k7) (by decide)
  have s2 := same_refl _ (t3 k6 k8 k9) (by decide)
  have s3 := same_refl _ (t3 k6 k8 k10) (by decide)
  have s4 := same_refl _ (t3 k11 k12 k7) (by decide)
  clear k5 k6 k7 k8 k9 k10 k11 k12 t3 nn ix l1 l2 l3 e1 e2 e3 e4
  generalize Rat.divInt 45 1 = r1 at *
  generalize Rat.divInt 95 1 = r2 at *
  generalize Rat.divInt 200 1 = r3 at *
  generalize Rat.divInt 1 2 = r4 at *
  generalize Rat.divInt 15 1 = r5 at *
  generalize Rat.divInt 30 1 = r6 at *
  generalize Rat.divInt 0 1 = r7 at *
  generalize Rat.divInt 60 1 = r8 at *
  generalize Rat.divInt 5 1 = r9 at *
  generalize Rat.divInt 10 1 = r10 at *
  generalize Rat.divInt 1 6 = r11 at *
  generalize Rat.divInt 1 3 = r12 at *
  generalize smp = S at *
  refine ACalls.of_W (qs := [cB true]) [0] 125 Try.func7 (by kernel_rfl) rfl rfl rfl fun G => ?_
  refine W.initA (hw := ?_)
  repeat' (first | ((first | apply U_ | (apply Ug_; exact rfl; exact rfl) | (apply Ugq_; exact rfl; exact rfl)); (first | (apply Q_litD TYok; (repeat (first | exact EvR.nil | apply EvR.cons Ev.auto)); exact rfl; exact rfl; exact rfl; exact rfl; exact rfl; exact rfl) | exact QX.B TYok | exact QX.Ext TYok | exact QCd (s0) | exact QCd (o1) | exact QCd (o2) | exact QCd (o3) | exact QCd (o4) | exact QCd (o5) | exact QCd (o6) | exact QCd (o7) | exact QCd (o8) | exact QCd (o9) | exact QCd (o10) | exact QCd (o11) | exact QCd (o12) | exact QCd (p1) | exact QCd (p2) | exact QCd (p3) | exact QCd (p4) | exact QCd (h1) | exact QCd (h2) | exact QCd (h3) | exact QCd (s1) | exact QCd (s2) | exact QCd (s3) | exact QCd (s4)); exact rfl) | refine SX.Lit TYok (h := ?_) | refine SC ?_ | (apply S_isnil TYok; exact rfl; exact rfl; exact rfl; exact Ev.auto; intro bn hnil) | refine SG ?_ | (refine W.condA (ht := fun hb => ?_) (hf := fun hb => ?_) <;> (try simp at hb) <;> (try (exfalso; omega))))
  all_goals first
    | exact Fin.ret ResL.auto
    | trace_state
end
end Go.Proofs.Ytndfnihglpconaa
end
section
set_option linter.unusedVariables false
set_option linter.unusedSimpArgs false
set_option maxHeartbeats 8000000
namespace Go.Proofs.Ytndfnihglpconaa
open Lf Go
attribute [local irreducible] PureOp EffOp Ev RG W Then InBlock Lf.Fin nth App InitE Pick SubE EvL EvD EvP EvR ResL Lf.Lex SubR SubBR FinO FinM ResM ResD FinS val pw digs trimL
section
open RankLaw
attribute [local irreducible] sgn mag gcdZ quoZ remZ fullZ fullE
theorem fewq (q : Fq) (h1 : q.d.length ≤ 9223372036854775807) (h2 : q.d'.length ≤ 9223372036854775807) (l : List Cl) (hl : l.length ≤ 9223372036854775807) : ∃ b, ACalls Try.prog 8 [fB q.s q.d q.s' q.d', slC l] (.pv (cB b)) ∧ (b = true → (l.length ≤ 20 ∧ q.d.length ≤ 20) ∧ q.d'.length ≤ 20) := by
  refine ⟨_, rfew_ok q.s q.d q.s' q.d' l h1 h2 hl, fun h => ?_⟩
  simp only [Bool.and_eq_true, decide_eq_true_iff] at h
  omega
theorem pr_split (s : Int) (d : List Int) (s' : Int) (d' : List Int) (l : List Cl) (hd : d.length ≤ 20) (hd' : d'.length ≤ 20) (hl : l.length ≤ 20) : ∃ R e, ACalls Try.prog 9 [fB s d s' d', slC l] (.tup [slQ R, cI e]) ∧ ACalls Try.prog 10 [fB s d s' d', slC l] (.tup [slQ R, cI e]) ∧ (∀ r ∈ R, okF r) ∧ R.length ≤ 20 := by
  by_cases h : rightFB s d s' d' = true ∧ rightC l = true
  · obtain ⟨r, o, rfl, rfl, rfl, rfl⟩ := frac_of h.1
    obtain ⟨hok, ha, hl2⟩ := rightC_yes h.2
    by_cases h0 : 0 ≤ r
    · have b := bd_of (n := 20) (by omega) (by omega) (r := r)
      exact ⟨payL r l, 0, split_ok r l b h0 h.2, rsplit_ok r l b h0 h.2, payL_ok b ha hl2, by rw [payL_len]; omega⟩
    · exact ⟨[], 1, split_neg r l o (by grind) (by omega), rsplit_neg r l o (by grind) (by omega), by simp, by simp⟩
  · exact ⟨[], 1, split_no s d s' d' l (by omega) (by omega) (by omega) h, rsplit_no s d s' d' l (by omega) (by omega) (by omega) h, by simp, by simp⟩
theorem pr_short (l : List Cl) (L : List Fq) (hl : l.length ≤ 20) (hL : L.length ≤ 30) (hq : FqOk L) : ∃ m b, ACalls Try.prog 11 [slC l, slF L] (.tup [cI m, cB b]) ∧ ACalls Try.prog 12 [slC l, slF L] (.tup [cI m, cB b]) := by
  by_cases h : rightC l = true ∧ L.length = l.length
  · by_cases hr : ∀ q ∈ L, q.right = true
    · obtain ⟨R, hR, rfl⟩ := fqs_of hr
      rw [List.length_map] at h
      have e : slF (R.map fqOf) = slQ R := congrArg (fun x => PV.one (Cell.sl x)) (slF_of R)
      have a1 := pshort_ok l R h.1 h.2 hR
      have a2 := rshort_ok l R h.1 h.2 hR
      rw [← e] at a1 a2
      exact ⟨_, _, a1, a2⟩
    · exact ⟨0, false, short_no l L h.1 h.2 hq hr, rshort_no l L h.1 h.2 hq hr⟩
  · exact ⟨0, false, short_arg l L (by omega) (by omega) h, rshort_arg l L (by omega) (by omega) h⟩
theorem tells_ok (s : Int) (d : List Int) (s' : Int) (d' : List Int) (l : List Cl) (L : List Fq) (hd : d.length ≤ 9223372036854775807 ∧ d'.length ≤ 9223372036854775807) (hl : l.length ≤ 9223372036854775807) (hL : L.length ≤ 9223372036854775807) (hq : FqOk L) : ACalls Try.prog 3 [fB s d s' d', slC l, slF L] (.pv (cB true)) := by
  have h0 := small_ok
  obtain ⟨b, f1, hb1⟩ := fewq ⟨s, d, s', d'⟩ hd.1 hd.2 l hl
  simp only at f1 hb1
  by_cases hw : b = true ∧ (L.length : Int) ≤ 30
  case neg =>
    refine ACalls.of_W (qs := [cB true]) [6] 86 Try.func3 (by kernel_rfl) rfl rfl rfl fun G => ?_
    refine W.initA (hw := ?_)
    repeat' (first | ((first | apply U_ | (apply Ug_; exact rfl; exact rfl) | (apply Ugq_; exact rfl; exact rfl)); (first | exact QX.B TYok | exact QX.Len TYok | exact QX.Idx TYok | exact QX.Ext TYok | exact QCd (h0) | exact QCd (f1)); exact rfl) | refine SX.Box TYok (h := ?_) | refine SC ?_ | (apply S_isnil TYok; exact rfl; exact rfl; exact rfl; exact Ev.auto; intro bn hnil) | refine SG ?_ | (refine W.condA (ht := fun hb => ?_) (hf := fun hb => ?_) <;> (try simp at hb) <;> (try (exfalso; first | exact hw hb | omega))))
    all_goals first
      | exact Fin.ret ResL.auto
      | trace_state
  obtain ⟨rfl, hL30⟩ := hw
  obtain ⟨⟨b1, b2⟩, b3⟩ := hb1 rfl
  obtain ⟨R, e, s1, s2, hR, hRl⟩ := pr_split s d s' d' l b2 b3 b1
  obtain ⟨m, b, k1, k2⟩ := pr_short l L b1 (by omega) hq
  have sm := same_refl R hR (by omega)
  refine ACalls.of_W (qs := [cB true]) [6] 86 Try.func3 (by kernel_rfl) rfl rfl rfl fun G => ?_
  refine W.initA (hw := ?_)
  repeat' (first | ((first | apply U_ | (apply Ug_; exact rfl; exact rfl) | (apply Ugq_; exact rfl; exact rfl)); (first | exact QX.B TYok | exact QX.Len TYok | exact QX.Idx TYok | exact QX.Ext TYok | exact QCd (h0) | exact QCd (f1)); exact rfl) | refine SX.Box TYok (h := ?_) | refine SC ?_ | (apply S_isnil TYok; exact rfl; exact rfl; exact rfl; exact Ev.auto; intro bn hnil) | refine SG ?_ | (refine W.condA (ht := fun hb => ?_) (hf := fun hb => ?_) <;> (try simp at hb) <;> (try (exfalso; omega))))
  apply W.loopP (σ := Nat) 86 [1, 2, 3, 7] (fun j => j ≤ L.length) (fun j => [(8, vI j)]) (fun _ => [(3, ⟨26, 4, [[.int .i64 s, .sl (d.map Lf.encI), .int .i64 s', .sl (d'.map Lf.encI)]]⟩)]) (fun j => L.length - j) (0)
  case hp => repeat (first | exact Pick.nil | apply Pick.cons rfl)
  case h0 =>
    refine ⟨by omega, ?_⟩
    exact Le.auto
  case round =>
    rintro j gj
    apply W.norm (by repeat (first | exact App.nil | apply App.cons))
    by_cases hj : j < L.length
    · have hm := nth_mem hj
      obtain ⟨b', f2, hb2⟩ := fewq (nth L j) (hq _ hm).1 (hq _ hm).2 [] (by simp)
      repeat' (first | ((first | apply U_ | (apply Ug_; exact rfl; exact rfl) | (apply Ugq_; exact rfl; exact rfl)); (first | exact QX.B TYok | exact QX.Len TYok | exact QX.Idx TYok | exact QX.Ext TYok | exact QCd (f2)); exact rfl) | refine SX.Box TYok (h := ?_) | refine SC ?_ | (apply S_isnil TYok; exact rfl; exact rfl; exact rfl; exact Ev.auto; intro bn hnil) | refine SG ?_ | (refine W.condA (ht := fun hb => ?_) (hf := fun hb => ?_) <;> (try simp at hb) <;> (try (exfalso; omega))))
      all_goals first
        | exact Fin.ret ResL.auto
        | (refine ⟨j + 1, by omega, ?_, by omega⟩; exact Le.auto)
        | trace_state
    · obtain rfl : j = L.length := by omega
      repeat' (first | ((first | apply U_ | (apply Ug_; exact rfl; exact rfl) | (apply Ugq_; exact rfl; exact rfl)); (first | exact QX.B TYok | exact QX.Len TYok | exact QX.Idx TYok | exact QX.Ext TYok | exact QCd (s1) | exact QCd (s2) | exact QCd (k1) | exact QCd (k2) | exact QCd (sm)); exact rfl) | refine SX.Box TYok (h := ?_) | refine SC ?_ | (apply S_isnil TYok; exact rfl; exact rfl; exact rfl; exact Ev.auto; intro bn hnil) | refine SG ?_ | (refine W.condA (ht := fun hb => ?_) (hf := fun hb => ?_) <;> (try simp at hb) <;> (try (exfalso; omega))))
      all_goals first
        | exact Fin.ret ResL.auto
        | exact Fin.retB rfl (by simp)
        | trace_state
end
end Go.Proofs.Ytndfnihglpconaa
end
section
set_option linter.unusedVariables false
set_option linter.unusedSimpArgs false
set_option linter.unusedSectionVars false
namespace Lf
open Go Go.RowKit Go.ChangeShapes Go.WideShapes Go.ChangeAt
def allΦ (w : World) : Frz := fun b => match w.heap[b]? with | some (.cells c _ _) => some c | _ => none
theorem fits_all (w : World) : Fits (allΦ w) w := by
  intro b cs h
  unfold allΦ at h
  split at h
  · rename_i c e l he
    obtain rfl := Option.some.inj h
    exact ⟨_, _, he⟩
  · cases h
theorem cell_all {w : World} {a : Addr} {v : Value} (h : w.cell? a = some v) : a.spot = none ∧ (allΦ w a.block).bind (·[a.off]?) = some v := by
  unfold World.cell? at h
  unfold allΦ
  split at h
  · rename_i c e l he
    rw [he]
    split at h
    · cases h
    · rename_i hs
      exact ⟨by simpa using hs, by simpa using h⟩
  · cases h
def TyS (R : Nat → List Cell → Prop) : List (Nat × Nat) → List Cell → Prop
  | [], cl => cl = []
  | (_, ft) :: fs, cl => ∃ a b, cl = a ++ b ∧ R ft a ∧ TyS R fs b
def TyL (T : TT) : Nat → Nat → List Cell → Prop
  | 0, _, _ => False
  | n + 1, t, cl => match (T t).map TI.kind with
    | some (.int k) => ∃ i, cl = [.int k i] ∧ (Lit.int k i).wf = true
    | some .bool => ∃ b, cl = [.bool b]
    | some .string => ∃ s, cl = [.str s] ∧ s.length ≤ maxLen
    | some (.slice e) => ∃ rows, cl = [.sl rows] ∧ rows.length ≤ maxLen ∧ ∀ r ∈ rows, TyL T n e r
    | some (.struct fs) => TyS (TyL T n) fs cl
    | _ => False
def tile (T : TT) : Nat → List (Nat × Nat) → Option Nat
  | o, [] => some o
  | o, (fo, ft) :: fs => bif Nat.beq fo o then (T ft).bind fun ti => tile T (o + ti.sz) fs else none
def sup (T : TT) : Nat → Nat → Bool
  | 0, _ => false
  | n + 1, t => match T t with
    | some ti => (match ti.kind with
      | .int _ | .bool | .string => Nat.beq ti.sz 1
      | .slice e => Nat.beq ti.sz 1 && sup T n e && (match T e with | some te => Nat.blt 0 te.sz | none => false)
      | .struct fs => (match tile T 0 fs with | some s => Nat.beq s ti.sz | none => false) && fs.all fun f => sup T n f.2
      | _ => false)
    | none => false
theorem pick_rows {α : Type} {p : Nat → α → Prop} : ∀ {n : Nat}, (∀ i, i < n → ∃ r, p i r) → ∃ rows : List α, rows.length = n ∧ ∀ i r, rows[i]? = some r → p i r
  | 0, _ => ⟨[], rfl, fun i r h => by simp at h⟩
  | n + 1, h => by
    obtain ⟨rows, h1, h2⟩ := pick_rows (n := n) fun i hi => h i (by omega)
    obtain ⟨r, hr⟩ := h n (by omega)
    refine ⟨rows ++ [r], by simp [h1], fun i s hs => ?_⟩
    rw [List.getElem?_append] at hs
    split at hs
    · exact h2 i s hs
    · rename_i hi
      by_cases he : i = n
      · subst he
        simp [h1] at hs
        exact hs ▸ hr
      · rw [List.getElem?_eq_none (by simp; omega)] at hs
        cases hs
section
variable {P : Program} {T : TT} (hT : TOK P T)
include hT
theorem cellsOf_ti {t : Nat} {ti : TI} (h : T t = some ti) : P.cellsOf t = ti.sz := by
  obtain ⟨i, hi, hs, _⟩ := (hT t ti h).info
  simp [Program.cellsOf, hi, hs]
theorem read {H : Type} {enc : TypeId × Value → H} {w : World} {base : Nat} {spare : Nat → Bool} {held : Bool} : ∀ (n t fuel : Nat) (cs : List Value) (x : DataW H × List MemPlace), sup T n t = true → DataW.trod enc P w base spare held fuel t cs = some x →
    ∃ cl, RelL (allΦ w) cs cl ∧ TyL T n t cl ∧ ∀ ti, T t = some ti → cl.length = ti.sz := by
  intro n
  induction n with
  | zero => intro t fuel cs x hs _; simp [sup] at hs
  | succ n ih =>
    intro t fuel cs x hs h
    cases hti : T t with
    | none => simp [sup, hti] at hs
    | some ti =>
      have hk := (hT t ti hti).kind
      have hz := cellsOf_ti hT hti
      simp only [sup, hti] at hs
      simp only [TyL, hti, Option.map_some]
      cases hkd : ti.kind with
      | int k =>
        rw [hkd] at hk hs
        obtain ⟨i, rfl, hx, hw⟩ := DataW.trod_int hk h
        exact ⟨[.int k i], ⟨.int k i, trivial⟩, ⟨i, rfl, hw⟩, fun tj hj => by obtain rfl := Option.some.inj hj; simpa using (Nat.eq_of_beq_eq_true hs).symm⟩
      | bool =>
        rw [hkd] at hk hs
        obtain ⟨b, rfl, hx⟩ := DataW.trod_bool hk h
        exact ⟨[.bool b], ⟨.bool b, trivial⟩, ⟨b, rfl⟩, fun tj hj => by obtain rfl := Option.some.inj hj; simpa using (Nat.eq_of_beq_eq_true hs).symm⟩
      | string =>
        rw [hkd] at hk hs
        obtain ⟨s, rfl, hx, hw⟩ := DataW.trod_string hk h
        refine ⟨[.str s.data.toList], ⟨.str s, trivial⟩, ⟨_, rfl, ?_⟩, fun tj hj => by obtain rfl := Option.some.inj hj; simpa using (Nat.eq_of_beq_eq_true hs).symm⟩
        rw [Array.length_toList]; exact hw
      | slice e =>
        rw [hkd] at hk hs
        simp only [Bool.and_eq_true] at hs
        obtain ⟨⟨hs1, hs2⟩, hs3⟩ := hs
        cases hte : T e with
        | none => rw [hte] at hs3; cases hs3
        | some te =>
          rw [hte] at hs3
          have hpos := blt_lt hs3
          have hze := cellsOf_ti hT hte
          have hlen1 : ∀ tj, some ti = some tj → 1 = tj.sz := fun tj hj => by obtain rfl := Option.some.inj hj; exact (Nat.eq_of_beq_eq_true hs1).symm
          rcases DataW.trod_slice hk h with ⟨rfl, hx⟩ | ⟨a, len, cap, elems, rest, m, rfl, rfl, hx, hb, hl, hm, hel, hget, _, _⟩
          · exact ⟨[.sl []], ⟨.sl0, trivial⟩, ⟨[], rfl, Nat.zero_le _, fun r hr => by cases hr⟩, hlen1⟩
          · have each : ∀ i, i < len → ∃ cl : List Cell, ∃ ci, w.cells? base (a.add (i * P.cellsOf e)) (P.cellsOf e) = some ci ∧ RelL (allΦ w) ci cl ∧ TyL T n e cl ∧ cl.length = te.sz := by
              intro i hi
              have h1 := hget i hi
              rw [List.getElem?_eq_getElem (by omega)] at h1
              cases hc : w.cells? base (a.add (i * P.cellsOf e)) (P.cellsOf e) with
              | none => rw [hc] at h1; cases h1
              | some ci =>
                rw [hc] at h1
                obtain ⟨cl, g1, g2, g3⟩ := ih e m ci _ hs2 h1
                exact ⟨cl, ci, rfl, g1, g2, g3 te hte⟩
            obtain ⟨rows, hr1, hr2⟩ := pick_rows each
            refine ⟨[.sl rows], ⟨?_, trivial⟩, ⟨rows, rfl, by omega, fun r hr => ?_⟩, hlen1⟩
            · by_cases h0 : len = 0
              · subst h0
                obtain rfl : rows = [] := List.eq_nil_of_length_eq_zero hr1
                exact .slE a cap
              · obtain ⟨b, off, spot⟩ := a
                have cellat : ∀ i j r c, rows[i]? = some r → r[j]? = some c → ∃ v, w.cell? (Addr.add (Addr.add ⟨b, off, spot⟩ (i * te.sz)) j) = some v ∧ Rel (allΦ w) v c := by
                  intro i j r c h1 h2
                  obtain ⟨ci, g1, g2, g3, g4⟩ := hr2 i r h1
                  obtain ⟨v, hv1, hv2⟩ := g2.get h2
                  rw [hze] at g1
                  have hj : j < te.sz := by have := (List.getElem?_eq_some_iff.1 h2).1; omega
                  have := World.cells?_some g1
                  refine ⟨v, ?_, hv2⟩
                  rw [← hv1]
                  exact this.2.2 j hj
                have hrow0 : ∃ r, rows[0]? = some r := ⟨rows[0]'(by omega), List.getElem?_eq_getElem (by omega)⟩
                obtain ⟨r0, hr0⟩ := hrow0
                obtain ⟨_, _, _, _, hl0⟩ := hr2 0 r0 hr0
                obtain ⟨v0, hv0, _⟩ := cellat 0 0 r0 _ hr0 (List.getElem?_eq_getElem (show 0 < r0.length by omega))
                have hz0 : Addr.add (Addr.add ⟨b, off, spot⟩ (0 * te.sz)) 0 = ⟨b, off, spot⟩ := by simp [Addr.add]
                rw [hz0] at hv0
                have hsp : spot = none := (cell_all hv0).1
                subst hsp
                refine .sl b off len cap te.sz rows (fun i j => ((allΦ w b).bind (·[off + (i * te.sz + j)]?)).getD .nilFunc) hr1 hl (fun r hr => ?_) (fun i j r c h1 h2 => ?_) (fun i j r c h1 h2 => ?_)
                · obtain ⟨i, hi⟩ := List.getElem?_of_mem hr
                  obtain ⟨_, _, _, _, g⟩ := hr2 i r hi
                  exact g
                · obtain ⟨v, hv, _⟩ := cellat i j r c h1 h2
                  have := (cell_all hv).2
                  simp only [Addr.add_lit] at this
                  rw [show off + (i * te.sz + j) = off + i * te.sz + j by omega, this]; rfl
                · obtain ⟨v, hv, hv2⟩ := cellat i j r c h1 h2
                  have := (cell_all hv).2
                  simp only [Addr.add_lit] at this
                  rw [show off + (i * te.sz + j) = off + i * te.sz + j by omega, this]; exact hv2
            · obtain ⟨i, hi⟩ := List.getElem?_of_mem hr
              obtain ⟨_, _, _, g, _⟩ := hr2 i r hi
              exact g
      | struct fs =>
        rw [hkd] at hk hs
        obtain ⟨fields, hu, hfs⟩ := hk
        simp only [Bool.and_eq_true] at hs
        obtain ⟨hs1, hs2⟩ := hs
        cases htl : tile T 0 fs with
        | none => rw [htl] at hs1; cases hs1
        | some tot =>
          rw [htl] at hs1
          have htot := Nat.eq_of_beq_eq_true hs1
          obtain ⟨xs, m, rfl, hx, hlen, hxl, hget⟩ := DataW.trod_struct hu h
          have hall : ∀ f ∈ fs, ∃ y, DataW.trod enc P w base spare held m f.2 ((cs.drop f.1).take (P.cellsOf f.2)) = some y := by
            intro f hf
            rw [← hfs] at hf
            obtain ⟨g, hg, rfl⟩ := List.mem_map.1 hf
            obtain ⟨i, hi⟩ := List.getElem?_of_mem hg
            have hi' : fields[i]? = some g := by rw [← hi]; simp
            have hlt : i < xs.length := by rw [hxl]; exact (Array.getElem?_eq_some_iff.1 hi').1
            exact ⟨xs[i], by rw [hget i g hi', List.getElem?_eq_getElem hlt]⟩
          have main : ∀ (gs : List (Nat × Nat)) (o : Nat), (∀ f ∈ gs, ∃ y, DataW.trod enc P w base spare held m f.2 ((cs.drop f.1).take (P.cellsOf f.2)) = some y) → gs.all (fun f => sup T n f.2) = true → tile T o gs = some tot → cs.length = tot →
              ∃ cl, RelL (allΦ w) (cs.drop o) cl ∧ TyS (TyL T n) gs cl ∧ o + cl.length = tot := by
            intro gs
            induction gs with
            | nil =>
              intro o _ _ h1 h2
              simp only [tile, Option.some.injEq] at h1
              refine ⟨[], ?_, rfl, by simp [h1]⟩
              rw [List.drop_eq_nil_of_le (by omega)]
              trivial
            | cons f gs ihs =>
              intro o hall' hsup h1 h2
              obtain ⟨fo, ft⟩ := f
              rw [tile] at h1
              cases hbe : Nat.beq fo o with
              | false => rw [hbe] at h1; cases h1
              | true =>
                have := Nat.eq_of_beq_eq_true hbe
                subst this
                rw [hbe, cond_true] at h1
                cases htf : T ft with
                | none => rw [htf] at h1; cases h1
                | some tf =>
                  rw [htf] at h1
                  simp only [Option.bind_some] at h1
                  simp only [List.all_cons, Bool.and_eq_true] at hsup
                  obtain ⟨y, hy⟩ := hall' _ (List.mem_cons_self ..)
                  obtain ⟨c1, a1, a2, a3⟩ := ih ft m _ y hsup.1 hy
                  obtain ⟨c2, b1, b2, b3⟩ := ihs (fo + tf.sz) (fun g hg => hall' g (List.mem_cons_of_mem _ hg)) hsup.2 h1 h2
                  have hl1 := a3 tf htf
                  refine ⟨c1 ++ c2, ?_, ⟨c1, c2, rfl, a2, b2⟩, by simp; omega⟩
                  have e : cs.drop fo = (cs.drop fo).take tf.sz ++ cs.drop (fo + tf.sz) := by
                    rw [← List.drop_drop, List.take_append_drop]
                  rw [e]
                  rw [cellsOf_ti hT htf] at a1
                  exact a1.append b1
          obtain ⟨cl, c1, c2, c3⟩ := main fs 0 hall hs2 htl (by rw [hlen, hz, htot])
          refine ⟨cl, by simpa using c1, c2, fun tj hj => ?_⟩
          obtain rfl := Option.some.inj hj
          omega
      | array k e => rw [hkd] at hs; cases hs
      | ptr e => rw [hkd] at hs; cases hs
      | map k e => rw [hkd] at hs; cases hs
      | func => rw [hkd] at hs; cases hs
      | iface => rw [hkd] at hs; cases hs
      | other => rw [hkd] at hs; cases hs
/-- A slice that came in. -/
theorem read_slice {H : Type} {enc : TypeId × Value → H} {w : World} {base b0 : Nat} {spare : Nat → Bool} {held : Bool} {r : Reach} {t e : Nat} {v : Value} {d : DataW H} {ps : List MemPlace} (n : Nat) (hu : P.underlying t = some (.slice e)) (hs : sup T n t = true)
    (hval : Value.okWide P w r b0 t v) (hd : DataW.Trod enc P w base spare held t v d ps) : ∃ c, Rel (allΦ w) v c ∧ TyL T n t [c] := by
  obtain ⟨a, len, cap, rfl⟩ := okWide_slice hu hval
  obtain ⟨fuel, hf⟩ := hd
  obtain ⟨cl, h1, h2, _⟩ := read hT n t fuel _ _ hs hf
  simp only [Value.cells] at h1
  match cl, h1, h2 with
  | [c], h1, h2 => exact ⟨c, h1.1, h2⟩
/-- A struct that came in. -/
theorem read_struct {H : Type} {enc : TypeId × Value → H} {w : World} {base b0 : Nat} {spare : Nat → Bool} {held : Bool} {r : Reach} {t : Nat} {fs : Array Field} {v : Value} {d : DataW H} {ps : List MemPlace} (n : Nat) (hu : P.underlying t = some (.struct fs)) (hs : sup T n t = true)
    (hval : Value.okWide P w r b0 t v) (hd : DataW.Trod enc P w base spare held t v d ps) : ∃ cs, PRel (allΦ w) v (.agg cs) ∧ TyL T n t cs := by
  obtain ⟨arr, rfl, _⟩ := okWide_struct hu hval
  obtain ⟨fuel, hf⟩ := hd
  obtain ⟨cl, h1, h2, _⟩ := read hT n t fuel _ _ hs hf
  exact ⟨cl, ⟨arr, rfl, h1⟩, h2⟩
end
theorem rows_map {α : Type} {f : α → List Cell} {p : α → Prop} : ∀ {rows : List (List Cell)}, (∀ r ∈ rows, ∃ v, r = f v ∧ p v) → ∃ l : List α, rows = l.map f ∧ ∀ v ∈ l, p v
  | [], _ => ⟨[], rfl, fun v hv => by cases hv⟩
  | r :: rs, h => by
    obtain ⟨v, rfl, hv⟩ := h r (List.mem_cons_self ..)
    obtain ⟨l, rfl, hl⟩ := rows_map fun s hs => h s (List.mem_cons_of_mem _ hs)
    exact ⟨v :: l, rfl, fun u hu => by cases hu with | head => exact hv | tail _ hm => exact hl u hm⟩
/-- arguments, one after the other -/
def ArgsL (Φ : Frz) : List Value → List PV → Prop
  | [], [] => True
  | v :: vs, p :: ps => PRel Φ v p ∧ ArgsL Φ vs ps
  | _, _ => False
theorem ArgsL.rel {Φ : Frz} : ∀ {vs : List Value} {ps : List PV}, ArgsL Φ vs ps → vs.length = ps.length ∧ ∀ (j : Nat) (p : PV), ps[j]? = some p → ∃ v, vs[j]? = some v ∧ PRel Φ v p
  | [], [], _ => ⟨rfl, fun j p h => by simp at h⟩
  | v :: vs, p :: ps, h => by
    obtain ⟨h1, h2⟩ := ArgsL.rel h.2
    refine ⟨by simp [h1], fun j q hq => ?_⟩
    cases j with
    | zero => simp at hq; exact ⟨v, rfl, hq ▸ h.1⟩
    | succ j => simpa using h2 j q (by simpa using hq)
theorem ArgsRel.of {Φ : Frz} {vs : List Value} {ps : List PV} (h : ArgsL Φ vs ps) : ArgsRel Φ vs.toArray ps := ⟨by simpa using h.rel.1, fun j p hp => by simpa using h.rel.2 j p hp⟩
theorem ArgsL.nil {Φ : Frz} : ArgsL Φ [] [] := trivial
theorem ArgsL.cons {Φ : Frz} {v : Value} {vs : List Value} {p : PV} {ps : List PV} (h : PRel Φ v p) (hs : ArgsL Φ vs ps) : ArgsL Φ (v :: vs) (p :: ps) := ⟨h, hs⟩
end Lf
end
section
namespace Go.Proofs.Ytndfnihglpconaa
open Lf Go
open RankLaw
theorem int_of1 {n : Nat} {cs : List Cell} (h : TyL TY (n + 1) 3 cs) : ∃ i : Int, cs = Lf.encI i ∧ True := by
  obtain ⟨i, rfl, _⟩ : ∃ i, cs = [.int .i64 i] ∧ (Lit.int .i64 i).wf = true := h
  exact ⟨i, rfl, trivial⟩
structure BV where
  s : Int
  l : List Int
abbrev encBV (b : BV) : List Cell := [.int .i64 b.s, .sl (b.l.map Lf.encI)]
theorem big_of {n : Nat} {cs : List Cell} (h : TyL TY (n + 3) 24 cs) : ∃ b : BV, cs = encBV b ∧ b.l.length ≤ 9223372036854775807 := by
  obtain ⟨a1, b1, rfl, t1, a2, b2, rfl, t2, rfl⟩ : ∃ a1 b1, cs = a1 ++ b1 ∧ TyL TY (n + 2) 3 a1 ∧ ∃ a2 b2, b1 = a2 ++ b2 ∧ TyL TY (n + 2) 22 a2 ∧ b2 = [] := h
  obtain ⟨s, rfl, _⟩ : ∃ i, a1 = [.int .i64 i] ∧ (Lit.int .i64 i).wf = true := t1
  obtain ⟨rows, rfl, hl, h3⟩ : ∃ rows, a2 = [Cell.sl rows] ∧ rows.length ≤ maxLen ∧ ∀ r ∈ rows, TyL TY (n + 1) 3 r := t2
  obtain ⟨l, rfl, _⟩ := rows_map (f := Lf.encI) (p := fun _ => True) fun r hr => int_of1 (h3 r hr)
  exact ⟨⟨s, l⟩, rfl, by simp only [List.length_map] at hl; unfold maxLen at hl; exact hl⟩
theorem fq_of {n : Nat} {cs : List Cell} (h : TyL TY (n + 4) 26 cs) : ∃ f : Fq, cs = encF f ∧ f.d.length ≤ 9223372036854775807 ∧ f.d'.length ≤ 9223372036854775807 := by
  obtain ⟨a1, b1, rfl, t1, a2, b2, rfl, t2, rfl⟩ : ∃ a1 b1, cs = a1 ++ b1 ∧ TyL TY (n + 3) 24 a1 ∧ ∃ a2 b2, b1 = a2 ++ b2 ∧ TyL TY (n + 3) 24 a2 ∧ b2 = [] := h
  obtain ⟨x, rfl, hx⟩ := big_of t1
  obtain ⟨y, rfl, hy⟩ := big_of t2
  exact ⟨⟨x.s, x.l, y.s, y.l⟩, rfl, hx, hy⟩
theorem fqs_in {c : Cell} (h : TyL TY 5 28 [c]) : ∃ l : List Fq, c = .sl (l.map encF) ∧ FqOk l ∧ l.length ≤ 9223372036854775807 := by
  obtain ⟨rows, h1, hl, h3⟩ : ∃ rows, [c] = [Cell.sl rows] ∧ rows.length ≤ maxLen ∧ ∀ r ∈ rows, TyL TY 4 26 r := h
  obtain rfl := (List.cons.inj h1).1
  obtain ⟨l, rfl, hq⟩ := rows_map (f := encF) (p := fun f => f.d.length ≤ 9223372036854775807 ∧ f.d'.length ≤ 9223372036854775807) fun r hr => fq_of (n := 0) (h3 r hr)
  exact ⟨l, rfl, hq, by simp only [List.length_map] at hl; unfold maxLen at hl; exact hl⟩
theorem claim_of {n : Nat} {cs : List Cell} (h : TyL TY (n + 2) 47 cs) : ∃ c : Cl, cs = encC c ∧ True := by
  obtain ⟨a1, b1, rfl, t1, a2, b2, rfl, t2, a3, b3, rfl, t3, a4, b4, rfl, t4, rfl⟩ : ∃ a1 b1, cs = a1 ++ b1 ∧ TyL TY (n + 1) 3 a1 ∧ ∃ a2 b2, b1 = a2 ++ b2 ∧ TyL TY (n + 1) 3 a2 ∧ ∃ a3 b3, b2 = a3 ++ b3 ∧ TyL TY (n + 1) 3 a3 ∧ ∃ a4 b4, b3 = a4 ++ b4 ∧ TyL TY (n + 1) 3 a4 ∧ b4 = [] := h
  obtain ⟨i1, rfl, _⟩ : ∃ i, a1 = [.int .i64 i] ∧ (Lit.int .i64 i).wf = true := t1
  obtain ⟨i2, rfl, _⟩ : ∃ i, a2 = [.int .i64 i] ∧ (Lit.int .i64 i).wf = true := t2
  obtain ⟨i3, rfl, _⟩ : ∃ i, a3 = [.int .i64 i] ∧ (Lit.int .i64 i).wf = true := t3
  obtain ⟨i4, rfl, _⟩ : ∃ i, a4 = [.int .i64 i] ∧ (Lit.int .i64 i).wf = true := t4
  exact ⟨⟨i1, i2, i3, i4⟩, rfl, trivial⟩
theorem claims_in {c : Cell} (h : TyL TY 4 27 [c]) : ∃ l : List Cl, c = .sl (l.map encC) ∧ l.length ≤ 9223372036854775807 := by
  obtain ⟨rows, h1, hl, h3⟩ : ∃ rows, [c] = [Cell.sl rows] ∧ rows.length ≤ maxLen ∧ ∀ r ∈ rows, TyL TY 3 47 r := h
  obtain rfl := (List.cons.inj h1).1
  obtain ⟨l, rfl, _⟩ := rows_map (f := encC) (p := fun _ => True) fun r hr => claim_of (n := 1) (h3 r hr)
  exact ⟨l, rfl, by simp only [List.length_map] at hl; unfold maxLen at hl; exact hl⟩
end Go.Proofs.Ytndfnihglpconaa
end
section
namespace Go.Proofs.Ytndfnihglpconaa
open Lf Go Go.ChangeShapes Go.WideShapes Go.ChangeAt Go.RowKit
namespace TellsRow
theorem own : ownKnob Try.prog.godebug = none := by kernel_rfl
theorem laidOut : laidOutB Try.prog = true := by kernel_rfl
set_option maxRecDepth 100000 in
theorem lifted (os : Os) (started : os.Started) (H : Type) (enc : TypeId × Value → H) :
    ReturnsInHanded {} Try.checked os 3 .any (Rows.rankTellsSpec.pre6 enc Try.prog Try.f3 Rows.rankTellsRow.domain false) (Rows.rankTellsSpec.post enc Try.prog Try.f3 false true false false) := by
  refine returnsInHanded_of_change (C := Try.checked) own started (by kernel_rfl) Try.func3
    (ChangeSpec.witness6 (enc := enc) (C := Try.checked) false ⟨#[], #[.agg #[.int .i64 0, .slice none 0 0, .int .i64 0, .slice none 0 0], .slice none 0 0, .slice none 0 0], []⟩ 8 (by kernel_rfl) (by kernel_rfl) (by kernel_rfl) (by kernel_rfl)) ?_
  intro W base args ds gs before hval0 hW hcnd _
  have hval : ∀ (j : Nat) t v, Try.f3.params[j]? = some t → args[j]? = some v → Value.okWide Try.prog W .any base t v := hval0
  have hW' := hW
  obtain ⟨p, q, hA0, hV, rfl, hfz, hnd⟩ := hW
  have hA : DataW.TrodAll enc Try.prog W 0 (fun _ => true) true Try.f3.params.toList args.toList ds p := hA0
  rw [Try.params3] at hA hval
  obtain ⟨v0, vs0, d0, ds0, p0, q0, hargs, rfl, rfl, h0, r0⟩ := trodAll_cons hA
  obtain ⟨v1, vs1, d1, ds1, p1, q1, rfl, rfl, rfl, h1, r1⟩ := trodAll_cons r0
  obtain ⟨v2, vs2, d2, ds2, p2, q2, rfl, rfl, rfl, h2, r2⟩ := trodAll_cons r1
  obtain ⟨rfl, rfl, rfl⟩ := trodAll_nil r2
  obtain rfl : args = #[v0, v1, v2] := by cases args; simp_all
  obtain ⟨rfl, rfl⟩ := trodVars_none hV
  have k0 := h0
  have lt0 : ∀ x ∈ p0, x.block < W.heap.size := by obtain ⟨m, hm⟩ := k0; exact DataW.trod_lt m _ _ _ hm
  obtain ⟨c0, rel0, ty0⟩ := read_struct TYok 4 Try.underlying26 (by kernel_rfl) (hval 0 26 v0 rfl rfl) h0
  obtain ⟨a0, rfl, w0⟩ := fq_of ty0
  have k1 := h1
  have lt1 : ∀ x ∈ p1, x.block < W.heap.size := by obtain ⟨m, hm⟩ := k1; exact DataW.trod_lt m _ _ _ hm
  obtain ⟨c1, rel1, ty1⟩ := read_slice TYok 4 Try.underlying27 (by kernel_rfl) (hval 1 27 v1 rfl rfl) h1
  obtain ⟨a1, rfl, w1⟩ := claims_in ty1
  have k2 := h2
  have lt2 : ∀ x ∈ p2, x.block < W.heap.size := by obtain ⟨m, hm⟩ := k2; exact DataW.trod_lt m _ _ _ hm
  obtain ⟨c2, rel2, ty2⟩ := read_slice TYok 5 Try.underlying28 (by kernel_rfl) (hval 2 28 v2 rfl rfl) h2
  obtain ⟨a2, rfl, w2⟩ := fqs_in ty2
  clear hA0 hval0
  have hc := (tells_ok a0.s a0.d a0.s' a0.d' a1 a2 w0 w1 w2.2 w2.1).calls (allΦ W) W #[v0, v1, v2] (fits_all W)
    (ArgsRel.of (ArgsL.cons rel0 (ArgsL.cons rel1 (ArgsL.cons rel2 ArgsL.nil))))
  refine hc.mono fun e W' ⟨v, Φ', he, hv, _, _, _, bel⟩ => ?_
  subst he
  obtain rfl : v = .bool true := AVRel.bool hv
  exact ⟨_, rfl, _, _, _, [], _, [], hW', trodAll_mk1 (shut_bool Try.underlying4 _), (trodAll_cons_mk (Below.trod laidOut (by kernel_rfl) (of_decide_eq_true (by kernel_rfl)) k0 bel lt0) (trodAll_cons_mk (Below.trod laidOut (by kernel_rfl) (of_decide_eq_true (by kernel_rfl)) k1 bel lt1) (trodAll_cons_mk (Below.trod laidOut (by kernel_rfl) (of_decide_eq_true (by kernel_rfl)) k2 bel lt2) trodAll_mk0))), rfl, bel.frame _, fun h => by cases h⟩
theorem over : Rows.rankTellsRow.holds Try.pinned (OpenSpec.ofChange Rows.rankTellsSpec) :=
  OpenClaim.holds_of_wide 3 Try.f3 rfl rfl rfl rfl rfl rfl rfl ⟨rfl, rfl, rfl, rfl, rfl⟩ rfl rfl rfl rfl rfl (by kernel_rfl) Try.func3 (by kernel_rfl)
    (of_decide_eq_true (by kernel_rfl)) (by unfold Func.isWrapper; first | (rw [if_pos (by decide +kernel)]; kernel_rfl) | (rw [if_neg (by decide +kernel)]; exact ⟨rfl, rfl⟩))
    (fun os started H enc _ => lifted os started H enc)
end TellsRow
theorem rankTells_proved : Rows.RankTellsSaid := TellsRow.over
end Go.Proofs.Ytndfnihglpconaa
end
