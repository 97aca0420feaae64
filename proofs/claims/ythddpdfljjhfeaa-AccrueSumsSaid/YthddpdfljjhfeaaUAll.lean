/-
  AccrueSums: the row: what came in is read, the contract of the function gives true, and what came in stands.
-/
import Derived.Test.YthddpdfljjhfeaaUS08
import Derived.Test.YthddpdfljjhfeaaUS04
import Derived.Test.YthddpdfljjhfeaaUS07
import Derived.Test.YthddpdfljjhfeaaUS02
import Derived.Test.YthddpdfljjhfeaaUS03
import Derived.ProofKit
import Derived.OpenShut
import Derived.Carry
section
set_option linter.unusedVariables false
set_option linter.unusedSimpArgs false
set_option maxHeartbeats 8000000
namespace Go.Proofs.Ythddpdfljjhfeaa
open Lf Go
attribute [local irreducible] PureOp EffOp Ev RG W Then InBlock Lf.Fin nth App InitE Pick EvL EvD EvP EvR ResL Lf.Lex SubR SubBR FinO FinM ResM ResD FinS val pw digs trimL
section
attribute [local irreducible] sgn mag gcdZ quoZ remZ fullZ fullE
theorem qnew_pos (x y : Int) (hx : okZ x) (hy : okZ y) (h0 : 0 < y) : ACalls Try.prog 63 [zB x, zB y] (.tup [zF2 (quoZ x (gcdZ x y)) (quoZ y (gcdZ x y)), cI 0]) := by
  have r1 := rright_yes hx
  have r2 := rright_yes hy
  have cy := sgn_cases y
  have hg := gcd_pos (x := x) (show y ≠ 0 by omega)
  have og := gcd_lt hx hy
  have g1 := rgcdZ_ok x y hx hy
  have d1 := rdivZ_ok x (gcdZ x y) hx og (by omega)
  have d2 := rdivZ_ok y (gcdZ x y) hy og (by omega)
  generalize quoZ x (gcdZ x y) = a at *
  generalize quoZ y (gcdZ x y) = b at *
  generalize gcdZ x y = g at *
  refine ACalls.of_M TYok (qs := [zF2 a b, cI 0]) [.cell 4 26, .tmp 5] 57 Try.func63 (by kernel_rfl) rfl rfl rfl fun G => ?_
  refine W.initA (hw := ?_)
  repeat' (first | ((first | apply U_ | (apply Ug_; exact rfl; exact rfl) | (apply Ugq_; exact rfl; exact rfl)); (first | exact QX.B TYok | exact QX.Ext TYok | exact QX.Build TYok | exact QCd (r1) | exact QCd (r2) | exact QCd (g1) | exact QCd (d1) | exact QCd (d2)); exact rfl) | refine SX.Alloc TYok (h := ?_) | refine SX.Store TYok (h := ?_) | refine SX.Box TYok (h := ?_) | refine SC ?_ | (apply S_isnil TYok; exact rfl; exact rfl; exact rfl; exact Ev.auto; intro bn hnil) | refine SG ?_ | (refine W.condA (ht := fun hb => ?_) (hf := fun hb => ?_) <;> (try simp at hb) <;> (try (exfalso; omega))))
  all_goals exact FinM.ret ResM.auto
theorem qnew_neg (x y : Int) (hx : okZ x) (hy : okZ y) (h0 : y < 0) : ACalls Try.prog 63 [zB x, zB y] (.tup [zF2 (quoZ (-x) (gcdZ (-x) (-y))) (quoZ (-y) (gcdZ (-x) (-y))), cI 0]) := by
  have r1 := rright_yes hx
  have r2 := rright_yes hy
  have cy := sgn_cases y
  have n1 := rneg_ok x hx
  have n2 := rneg_ok y hy
  have ox := okZ_neg hx
  have oy := okZ_neg hy
  have hg := gcd_pos (x := -x) (show -y ≠ 0 by omega)
  have og := gcd_lt ox oy
  have g1 := rgcdZ_ok (-x) (-y) ox oy
  have d1 := rdivZ_ok (-x) (gcdZ (-x) (-y)) ox og (by omega)
  have d2 := rdivZ_ok (-y) (gcdZ (-x) (-y)) oy og (by omega)
  generalize quoZ (-x) (gcdZ (-x) (-y)) = a at *
  generalize quoZ (-y) (gcdZ (-x) (-y)) = b at *
  generalize gcdZ (-x) (-y) = g at *
  refine ACalls.of_M TYok (qs := [zF2 a b, cI 0]) [.cell 4 26, .tmp 5] 57 Try.func63 (by kernel_rfl) rfl rfl rfl fun G => ?_
  refine W.initA (hw := ?_)
  repeat' (first | ((first | apply U_ | (apply Ug_; exact rfl; exact rfl) | (apply Ugq_; exact rfl; exact rfl)); (first | exact QX.B TYok | exact QX.Ext TYok | exact QX.Build TYok | exact QCd (r1) | exact QCd (r2) | exact QCd (n1) | exact QCd (n2) | exact QCd (g1) | exact QCd (d1) | exact QCd (d2)); exact rfl) | refine SX.Alloc TYok (h := ?_) | refine SX.Store TYok (h := ?_) | refine SX.Box TYok (h := ?_) | refine SC ?_ | (apply S_isnil TYok; exact rfl; exact rfl; exact rfl; exact Ev.auto; intro bn hnil) | refine SG ?_ | (refine W.condA (ht := fun hb => ?_) (hf := fun hb => ?_) <;> (try simp at hb) <;> (try (exfalso; omega))))
  all_goals exact FinM.ret ResM.auto
theorem qnew_ok (x y : Int) (hx : okZ x) (hy : okZ y) (h0 : y ≠ 0) : ACalls Try.prog 63 [zB x, zB y] (.tup [zF (Rat.divInt x y), cI 0]) := by
  by_cases h : 0 < y
  · obtain ⟨e1, e2⟩ := divInt_pos (x := x) h
    have := qnew_pos x y hx hy h
    rwa [← e1, ← e2] at this
  · obtain ⟨e1, e2⟩ := divInt_pos (x := -x) (y := -y) (by omega)
    have := qnew_neg x y hx hy (by omega)
    rw [← e1, ← e2, divInt_flip] at this
    exact this
theorem qof_ok (p q : Int) (hp : i64B p) (hq : i64B q) (h0 : q ≠ 0) : ACalls Try.prog 34 [cI p, cI q] (.tup [zF (Rat.divInt p q), cI 0]) := by
  have z1 := rof_ok p hp
  have z2 := rof_ok q hq
  have n1 := qnew_ok p q (i64_ok hp) (i64_ok hq) h0
  generalize Rat.divInt p q = r at *
  refine ACalls.of_M TYok (qs := [zF r, cI 0]) [.cell 4 26, .tmp 5] 13 Try.func34 (by kernel_rfl) rfl rfl rfl fun G => ?_
  refine W.initA (hw := ?_)
  repeat' (first | ((first | apply U_); (first | exact QX.B TYok | exact QX.Ext TYok | exact QCd (z1) | exact QCd (z2) | exact QCd (n1)); exact rfl) | refine SX.Alloc TYok (h := ?_) | refine SX.Store TYok (h := ?_) | refine SC ?_ | (refine W.condA (ht := fun hb => ?_) (hf := fun hb => ?_) <;> (try simp at hb) <;> (try (exfalso; omega))))
  all_goals exact FinM.ret ResM.auto
end
section
attribute [local irreducible] sgn mag gcdZ quoZ remZ fullZ fullE
theorem fullE_no {z : Int} (h : ¬ okZ z) : ¬ fullE z = 0 := by rw [(full_no h).2]; decide
end
section
attribute [local irreducible] sgn mag gcdZ quoZ remZ fullZ fullE
theorem fmul_no (a b : Rat) (ha : okF a) (hb : okF b) (h : ¬ mulOk a b) : ACalls Try.prog 39 [zF a, zF b] (.tup [zF0, cI 6]) := by
  have r1 := fright_yes a ha
  have r2 := fright_yes b hb
  have m1 := mulZ_ok a.num b.num ha.1 hb.1
  have m2 := mulZ_ok a.den b.den ha.2 hb.2
  have q1 := quot_no (fullZ (a.num * b.num)) (fullE (a.num * b.num)) (fullZ (a.den * b.den)) (fullE (a.den * b.den)) (by
    unfold mulOk at h
    by_cases k1 : okZ (a.num * b.num)
    · by_cases k2 : okZ (a.den * b.den)
      · exact absurd ⟨k1, k2⟩ h
      · exact .inr (fullE_no k2)
    · exact .inl (fullE_no k1))
  generalize fullZ (a.num * b.num) = w1 at *
  generalize fullE (a.num * b.num) = e1 at *
  generalize fullZ (a.den * b.den) = w2 at *
  generalize fullE (a.den * b.den) = e2 at *
  refine ACalls.of_M TYok (qs := [zF0, cI 6]) [.cell 4 26, .tmp 5] 42 Try.func39 (by kernel_rfl) rfl rfl rfl fun G => ?_
  refine W.initA (hw := ?_)
  repeat' (first | ((first | apply U_ | (apply Ug_; exact rfl; exact rfl) | (apply Ugq_; exact rfl; exact rfl)); (first | exact QX.B TYok | exact QX.Ext TYok | exact QX.Build TYok | exact QCd (r1) | exact QCd (r2) | exact QCd (m1) | exact QCd (m2) | exact QCd (q1)); exact rfl) | refine SX.Alloc TYok (h := ?_) | refine SX.Store TYok (h := ?_) | refine SX.Box TYok (h := ?_) | refine SC ?_ | refine SG ?_ | (refine W.condA (ht := fun hb => ?_) (hf := fun hb => ?_) <;> (try simp at hb) <;> (try (exfalso; omega))))
  all_goals exact FinM.ret ResM.auto
end
end Go.Proofs.Ythddpdfljjhfeaa
end
section
set_option linter.unusedVariables false
set_option linter.unusedSimpArgs false
set_option maxHeartbeats 8000000
namespace Go.Proofs.Ythddpdfljjhfeaa
open Lf Go
attribute [local irreducible] PureOp EffOp Ev RG W Then InBlock Lf.Fin nth App InitE Pick EvL EvD EvP EvR ResL Lf.Lex SubR SubBR FinO FinM ResM ResD FinS val pw digs trimL
section
theorem divInt_one (n : Int) : Rat.divInt n 1 = (n : Rat) := by
  obtain ⟨h1, h2⟩ := rat_of (x := n) (y := 1) (by decide) (by unfold gcdZ; simp)
  refine Rat.ext ?_ ?_
  · rw [h1]; rfl
  · have : ((n : Rat).den : Int) = 1 := rfl
    omega
theorem okF_int {n : Int} (h : i64B n) : okF (n : Rat) := by
  rw [← divInt_one]
  exact okF_of (i64_ok h) (i64_ok (by unfold i64B; omega)) (by omega)
theorem mul_lt {x y : Int} {m n k : Nat} (hk : m + n = k) (hx : -pw m < x ∧ x < pw m) (hy : -pw n < y ∧ y < pw n) : -pw k < x * y ∧ x * y < pw k := by
  subst hk
  have h1 := pw_pos m
  have h2 := pw_pos n
  have h : (x * y).natAbs < (pw (m + n)).natAbs := by
    rw [pw_add, Int.natAbs_mul, Int.natAbs_mul]
    exact Nat.mul_lt_mul'' (by omega) (by omega)
  have := pw_pos (m + n)
  omega
def bd (r : Rat) (n : Nat) : Prop := (-pw n < r.num ∧ r.num < pw n) ∧ (-pw n < (r.den : Int) ∧ (r.den : Int) < pw n)
theorem bd_ok {r : Rat} {n : Nat} (h : bd r n) (hn : n ≤ 60) : okF r := by
  have := pw_mono hn
  obtain ⟨h1, h2⟩ := h
  exact ⟨okZ.of (by omega), okZ.of (by omega)⟩
theorem bd_div {x y : Int} {n : Nat} (h0 : y ≠ 0) (hx : -pw n < x ∧ x < pw n) (hy : -pw n < y ∧ y < pw n) : bd (Rat.divInt x y) n := by
  obtain ⟨h1, h2⟩ := divInt_le (x := x) h0
  have a := sgn_cases x
  have b := sgn_cases y
  have c := sgn_cases (Rat.divInt x y).num
  have d := sgn_cases ((Rat.divInt x y).den : Int)
  exact ⟨by omega, by omega⟩
theorem add_bd {a b : Rat} {m n k : Nat} (hk : m + n = k) (ha : bd a m) (hB : bd b n) (h60 : k + 1 ≤ 60) : bd (a + b) (k + 1) ∧ addOk a b := by
  have h1 := mul_lt hk ha.1 hB.2
  have h2 := mul_lt (m := n) (n := m) (k := k) (by omega) hB.1 ha.2
  have h3 := mul_lt hk ha.2 hB.2
  have e : pw (k + 1) = 1048576 * pw k := by rw [pw_succ]
  have hm := pw_mono h60
  have hp := pw_pos k
  refine ⟨?_, ⟨⟨okZ.of (by omega), okZ.of (by omega), okZ.of (by omega)⟩, okZ.of (by omega)⟩⟩
  rw [rat_add]
  exact bd_div (mul_ne (den_ne a) (den_ne b)) (by omega) (by omega)
theorem mul_bd {a b : Rat} {m n k : Nat} (hk : m + n = k) (ha : bd a m) (hB : bd b n) (h60 : k ≤ 60) : bd (a * b) k ∧ mulOk a b := by
  have h1 := mul_lt hk ha.1 hB.1
  have h3 := mul_lt hk ha.2 hB.2
  have hm := pw_mono h60
  refine ⟨?_, ⟨okZ.of (by omega), okZ.of (by omega)⟩⟩
  rw [rat_mul]
  exact bd_div (mul_ne (den_ne a) (den_ne b)) h1 h3
theorem pw4 : pw 4 = 1208925819614629174706176 := by decide +kernel
theorem int_bd {n : Int} (h : -1208925819614629174706176 < n ∧ n < 1208925819614629174706176) : bd (n : Rat) 4 := by
  have e := pw4
  have h1 : (n : Rat).num = n := rfl
  have h2 : ((n : Rat).den : Int) = 1 := rfl
  unfold bd
  rw [h1, h2]
  omega
theorem cmpR_cases (a b : Rat) : (cmpR a b = -1 ∧ a < b) ∨ (cmpR a b = 0 ∧ a = b) ∨ (cmpR a b = 1 ∧ b < a) := by
  unfold cmpR
  rcases cmp_cases (a.num * b.den) (b.num * a.den) with h | h | h
  · exact .inl ⟨h.1, (Rat.lt_iff a b).2 h.2⟩
  · exact .inr (.inl ⟨h.1, Rat.le_antisymm ((Rat.le_iff a b).2 (by omega)) ((Rat.le_iff b a).2 (by omega))⟩)
  · exact .inr (.inr ⟨h.1, (Rat.lt_iff b a).2 h.2⟩)
theorem sgnR_cases (r : Rat) : (sgn r.num = -1 ∧ r < 0) ∨ (sgn r.num = 0 ∧ r = 0) ∨ (sgn r.num = 1 ∧ 0 < r) := by
  have h1 := cmpR_cases r 0
  have c := sgn_cases r.num
  have e : cmpR r 0 = sgn r.num := by
    unfold cmpR
    have k := cmp_cases (r.num * ((0 : Rat).den : Int)) ((0 : Rat).num * r.den)
    rw [show ((0 : Rat).den : Int) = 1 from rfl, show (0 : Rat).num = 0 from rfl, Int.mul_one, Int.zero_mul] at k ⊢
    omega
  rw [e] at h1
  exact h1
theorem sgn_neg (r : Rat) : (sgn r.num < 0) ↔ r < 0 := by
  rcases sgnR_cases r with h | h | h
  · exact ⟨fun _ => h.2, fun _ => by omega⟩
  · exact ⟨fun _ => by omega, fun k => by have := h.2; grind⟩
  · exact ⟨fun _ => by omega, fun k => by have := h.2; grind⟩
theorem mulOk_okF {a b : Rat} (h : mulOk a b) : okF (a * b) := by
  rw [rat_mul]
  exact okF_of h.1 h.2 (mul_ne (den_ne a) (den_ne b))
end
end Go.Proofs.Ythddpdfljjhfeaa
end
section
set_option linter.unusedVariables false
set_option linter.unusedSimpArgs false
set_option maxHeartbeats 8000000
namespace Go.Proofs.Ythddpdfljjhfeaa
open Lf Go
attribute [local irreducible] PureOp EffOp Ev RG W Then InBlock Lf.Fin nth App InitE Pick EvL EvD EvP EvR ResL Lf.Lex SubR SubBR FinO FinM ResM ResD FinS val pw digs trimL
section
open CalLaw
theorem date_ex' (n : Int) : ∃ z : Int × Int × Int, (0 ≤ n ∧ n ≤ 200000) → (1900 ≤ z.1 ∧ z.1 ≤ 2447) ∧ IsDate z.1 z.2.1 z.2.2 ∧ num z.1 z.2.1 z.2.2 = n := by
  by_cases h : 0 ≤ n ∧ n ≤ 200000
  · obtain ⟨y, m, d, h1, h2, h3, h4⟩ := date_ex h
    exact ⟨(y, m, d), fun _ => ⟨⟨h1, h2⟩, h3, h4⟩⟩
  · exact ⟨(0, 0, 0), fun q => absurd q h⟩
/-- the date of a day -/
noncomputable def dt (n : Int) : Int × Int × Int := Classical.choose (date_ex' n)
theorem dt_spec {n : Int} (h : 0 ≤ n ∧ n ≤ 200000) : (1900 ≤ (dt n).1 ∧ (dt n).1 ≤ 2447) ∧ IsDate (dt n).1 (dt n).2.1 (dt n).2.2 ∧ num (dt n).1 (dt n).2.1 (dt n).2.2 = n := Classical.choose_spec (date_ex' n) h
theorem dt_of {y m d : Int} (hd : IsDate y m d) (h : 0 ≤ num y m d ∧ num y m d ≤ 200000) : dt (num y m d) = (y, m, d) := by
  obtain ⟨_, h2, h3⟩ := dt_spec h
  obtain ⟨e1, e2, e3⟩ := date_uniq h2 hd h3
  exact Prod.ext e1 (Prod.ext e2 e3)
noncomputable def th (n : Int) : Int := thirty (dt n).1 (dt n).2.1 (dt n).2.2
def lp (n : Int) : Int := lpd n 548
theorem th_rng {n : Int} (h : 0 ≤ n ∧ n ≤ 200000) : 0 ≤ th n ∧ th n ≤ 900000 := by
  obtain ⟨⟨h1, h2⟩, h3, _⟩ := dt_spec h
  have a := h3.m1
  have b := h3.m12
  have c := h3.d1
  unfold th thirty
  omega
theorem th_mono {a b : Int} (ha : 0 ≤ a) (hab : a ≤ b) (hb : b ≤ 200000) : th a ≤ th b := by
  obtain ⟨_, h3, h4⟩ := dt_spec (n := a) (by omega)
  obtain ⟨_, k3, k4⟩ := dt_spec (n := b) (by omega)
  exact thirty_mono h3 k3 (by omega)
theorem lpd_zero (n : Int) (h : n ≤ 0) : ∀ k, lpd n k = 0
  | 0 => rfl
  | k + 1 => by
    have h1 := before_mono 1900 k
    rw [before_1900] at h1
    rw [lpd, lpd_zero n h k]
    split <;> omega
theorem lp_mono {a b : Int} (hab : a ≤ b) : lp a ≤ lp b ∧ lp b ≤ lp a + (b - a) := by
  have := lpd_mono a 548 (b - a).toNat
  rw [show a + ((b - a).toNat : Int) = b by omega] at this
  unfold lp
  omega
theorem lp_rng {n : Int} (h : 0 ≤ n) : 0 ≤ lp n ∧ lp n ≤ n := by
  have := lp_mono h
  have e : lp 0 = 0 := lpd_zero 0 (by omega) 548
  omega
theorem lp_at {n : Int} {k : Nat} (hk : k ≤ 548) (h : n ≤ before (1900 + k)) : lpd n k = lp n := by
  have := lpd_more h (548 - k)
  rw [show k + (548 - k) = 548 by omega] at this
  exact this.symm
/-- a year that is over -/
theorem lpd_past {n : Int} {k : Nat} (h : before (1900 + (k : Int)) + yl (1900 + (k : Int)) ≤ n) : lpd n (k + 1) = lpd n k + if leap (1900 + k) then 366 else 0 := by
  rw [lpd]
  unfold yl at h
  split
  · rw [if_pos (by assumption)] at h; omega
  · rfl
theorem thirty_ok (n : Int) (h : 0 ≤ n ∧ n ≤ 200000) : ACalls Try.prog 29 [cI n] (.pv (cI (th n))) := by
  obtain ⟨h1, h3, h4⟩ := dt_spec h
  have p1 := parts_ok n _ _ _ h h1 h3 h4
  have a := h3.m1
  have b := h3.m12
  have c := h3.d1
  have d := h3.dl
  have e := last_le (dt n).1 (dt n).2.1
  unfold th thirty
  generalize (dt n).1 = y at *
  generalize (dt n).2.1 = m at *
  generalize (dt n).2.2 = x at *
  refine ACalls.of_W (qs := [cI (360 * y + 30 * m + min x 30)]) [2] 22 Try.func29 (by kernel_rfl) rfl rfl rfl fun G => ?_
  refine W.initA (hw := ?_)
  repeat' (first | ((first | apply U_); (first | exact QX.B TYok | exact QX.Num TYok | exact QX.Ext TYok | exact QCd (p1)); exact rfl) | refine SC ?_ | (refine W.condA (ht := fun hb => ?_) (hf := fun hb => ?_) <;> (try simp at hb) <;> (try (exfalso; omega))))
  all_goals first
    | exact Fin.ret ResL.auto
    | trace_state
theorem pleap_ok (n : Int) (h : 0 ≤ n ∧ n ≤ 200000) : ACalls Try.prog 33 [cI n] (.pv (cI (lp n))) := by
  obtain ⟨h1, h3, h4⟩ := dt_spec h
  have p1 := parts_ok n _ _ _ h h1 h3 h4
  have hyr := h3.year
  rw [h4] at hyr
  generalize (dt n).1 = y at *
  generalize (dt n).2.1 = m at *
  generalize (dt n).2.2 = x at *
  have br := before_rng (y := y) (by omega)
  have yr := yl_rng y
  refine ACalls.of_W (qs := [cI (lp n)]) [2] 40 Try.func33 (by kernel_rfl) rfl rfl rfl fun G => ?_
  refine W.initA (hw := ?_)
  repeat' (first | ((first | apply U_); (first | exact QX.B TYok | exact QX.Ext TYok | exact QCd (p1)); exact rfl) | refine SC ?_ | (refine W.condA (ht := fun hb => ?_) (hf := fun hb => ?_) <;> (try simp at hb) <;> (try (exfalso; omega))))
  apply W.loopP (σ := Nat) 40 [0, 3] (fun k => 1900 + (k : Int) ≤ y) (fun k => [(8, vI (1900 + (k : Int))), (7, vI (lpd n k))]) (fun _ => []) (fun k => (y - 1900).toNat - k) (0)
  case hp => repeat (first | exact Pick.nil | apply Pick.cons rfl)
  case h0 =>
    refine ⟨by omega, ?_⟩
    rw [show lpd n 0 = 0 from rfl]
    exact Le.auto
  case round =>
    rintro k gk
    apply W.norm (by repeat (first | exact App.nil | apply App.cons))
    have r1 : 0 ≤ lpd n k ∧ lpd n k ≤ n := by
      have := lpd_mono 0 k n.toNat
      rw [lpd_zero 0 (by omega) k, show (0 : Int) + (n.toNat : Int) = n by omega] at this
      omega
    by_cases hk : 1900 + (k : Int) < y
    · have l1 := isLeap_ok (1900 + (k : Int))
      have hlt := before_lt hk
      have e1 := lpd_past (n := n) (k := k) (by omega)
      generalize lpd n k = A at *
      cases hb : leap (1900 + (k : Int)) with
      | true =>
        rw [hb] at l1 e1
        rw [if_pos rfl] at e1
        repeat' (first | ((first | apply U_); (first | exact QX.B TYok | exact QX.Ext TYok | exact QCd (l1)); exact rfl) | refine SC ?_ | (refine W.condA (ht := fun hb => ?_) (hf := fun hb => ?_) <;> (try simp at hb) <;> (try (exfalso; omega))))
        all_goals first
          | (refine ⟨k + 1, by omega, ?_, by omega⟩
             (try dsimp only)
             rw [e1, show 1900 + (((k + 1 : Nat)) : Int) = 1900 + (k : Int) + 1 by omega]
             exact Le.auto)
          | trace_state
      | false =>
        rw [hb] at l1 e1
        rw [if_neg (by decide), Int.add_zero] at e1
        repeat' (first | ((first | apply U_); (first | exact QX.B TYok | exact QX.Ext TYok | exact QCd (l1)); exact rfl) | refine SC ?_ | (refine W.condA (ht := fun hb => ?_) (hf := fun hb => ?_) <;> (try simp at hb) <;> (try (exfalso; omega))))
        all_goals first
          | (refine ⟨k + 1, by omega, ?_, by omega⟩
             (try dsimp only)
             rw [e1, show 1900 + (((k + 1 : Nat)) : Int) = 1900 + (k : Int) + 1 by omega]
             exact Le.auto)
          | trace_state
    · have ek : 1900 + (k : Int) = y := by omega
      have l1 := isLeap_ok y
      have e1 : lp n = lpd n k + if leap y then n - before y else 0 := by
        have e2 := lp_at (n := n) (k := k + 1) (by omega) (by rw [show 1900 + (((k + 1 : Nat)) : Int) = y + 1 by omega, before_succ]; omega)
        rw [← e2, lpd, ek]
        split <;> omega
      rw [e1]
      generalize lpd n k = A at *
      cases hb : leap y with
      | true =>
        rw [hb] at l1
        have o1 := dof_ok y 1 1
        have en : num y 1 1 = before y := by
          unfold num
          rw [show mdays y (1 - 1 : Int).toNat = 0 from rfl]; omega
        have el : last y 1 = 31 := rfl
        have e3 : dofV y 1 1 = before y := by
          unfold dofV
          rw [en, if_pos ⟨by omega, by omega, by omega⟩]
        rw [e3] at o1
        generalize dofE y 1 1 = E at *
        generalize before y = B at *
        rw [if_pos rfl]
        repeat' (first | ((first | apply U_); (first | exact QX.B TYok | exact QX.Ext TYok | exact QCd (l1) | exact QCd (o1)); exact rfl) | refine SC ?_ | (refine W.condA (ht := fun hb => ?_) (hf := fun hb => ?_) <;> (try simp at hb) <;> (try (exfalso; omega))))
        all_goals first
          | exact Fin.ret ResL.auto
          | trace_state
      | false =>
        rw [hb] at l1
        rw [if_neg (by decide), Int.add_zero]
        repeat' (first | ((first | apply U_); (first | exact QX.B TYok | exact QX.Ext TYok | exact QCd (l1)); exact rfl) | refine SC ?_ | (refine W.condA (ht := fun hb => ?_) (hf := fun hb => ?_) <;> (try simp at hb) <;> (try (exfalso; omega))))
        all_goals first
          | exact Fin.ret ResL.auto
          | trace_state
end
end Go.Proofs.Ythddpdfljjhfeaa
end
section
set_option linter.unusedVariables false
set_option linter.unusedSimpArgs false
set_option maxHeartbeats 8000000
namespace Go.Proofs.Ythddpdfljjhfeaa
open Lf Go
attribute [local irreducible] PureOp EffOp Ev RG W Then InBlock Lf.Fin nth App InitE Pick EvL EvD EvP EvR ResL Lf.Lex SubR SubBR FinO FinM ResM ResD FinS val pw digs trimL
section
open CalLaw
attribute [local irreducible] sgn mag gcdZ quoZ remZ fullZ fullE
abbrev encQ (r : Rat) : List Cell := [.int .i64 (sgn r.num), .sl ((digs (mag r.num)).map Lf.encI), .int .i64 (sgn r.den), .sl ((digs (mag r.den)).map Lf.encI)]
abbrev spanP (c f t : Int) : Prop := (0 ≤ c ∧ c ≤ 2) ∧ (0 ≤ f ∧ f ≤ t) ∧ t ≤ 200000
theorem span_ok (c f t : Int) : ACalls Try.prog 28 [cI c, cI f, cI t] (.pv (cB (decide (spanP c f t)))) := by
  have d1 := day_ok f
  have d2 := day_ok t
  have e : decide (spanP c f t) = ((((decide (0 ≤ c) && decide (c < 3)) && (decide (0 ≤ f) && decide (f ≤ 200000))) && (decide (0 ≤ t) && decide (t ≤ 200000))) && decide (f ≤ t)) := by
    rw [Bool.eq_iff_iff]
    simp only [Bool.and_eq_true, decide_eq_true_iff]
    omega
  rw [e]
  generalize (decide (0 ≤ f) && decide (f ≤ 200000)) = b1 at *
  generalize (decide (0 ≤ t) && decide (t ≤ 200000)) = b2 at *
  refine ACalls.of_W (qs := [cB ((((decide (0 ≤ c) && decide (c < 3)) && b1) && b2) && decide (f ≤ t))]) [6] 26 Try.func28 (by kernel_rfl) rfl rfl rfl fun G => ?_
  refine W.initA (hw := ?_)
  repeat' (first | ((first | apply U_ | (apply Ug_; exact rfl; exact rfl) | (apply Ugq_; exact rfl; exact rfl)); (first | exact QX.B TYok | exact QCd (d1) | exact QCd (d2)); exact rfl) | refine SC ?_ | refine SG ?_ | (refine W.condA (ht := fun hb => ?_) (hf := fun hb => ?_) <;> (try simp at hb) <;> (try (exfalso; omega))))
  all_goals first
    | exact Fin.ret ResL.auto
    | trace_state
noncomputable def daysV (c f t : Int) : Int := if c = 0 then th t - th f else t - f
theorem days_yes (c f t : Int) (h : spanP c f t) : ACalls Try.prog 10 [cI c, cI f, cI t] (.tup [cI (daysV c f t), cI 0]) := by
  have s1 := span_ok c f t
  rw [decide_eq_true h] at s1
  obtain ⟨⟨h1, h2⟩, ⟨h3, h4⟩, h5⟩ := h
  have r1 := th_rng (n := f) (by omega)
  have r2 := th_rng (n := t) (by omega)
  have t1 := thirty_ok f (by omega)
  have t2 := thirty_ok t (by omega)
  unfold daysV
  generalize th f = F at *
  generalize th t = T at *
  by_cases h0 : c = 0
  · rw [if_pos h0]
    refine ACalls.of_W (qs := [cI (T - F), cI 0]) [6, 7] 23 Try.func10 (by kernel_rfl) rfl rfl rfl fun G => ?_
    refine W.initA (hw := ?_)
    repeat' (first | ((first | apply U_); (first | exact QX.B TYok | exact QCd (s1) | exact QCd (t1) | exact QCd (t2)); exact rfl) | refine SC ?_ | (apply S_isnil TYok; exact rfl; exact rfl; exact rfl; exact Ev.auto; intro bn hnil) | (refine W.condA (ht := fun hb => ?_) (hf := fun hb => ?_) <;> (try simp at hb) <;> (try (exfalso; omega))))
    all_goals exact Fin.ret ResL.auto
  · rw [if_neg h0]
    refine ACalls.of_W (qs := [cI (t - f), cI 0]) [6, 7] 23 Try.func10 (by kernel_rfl) rfl rfl rfl fun G => ?_
    refine W.initA (hw := ?_)
    repeat' (first | ((first | apply U_); (first | exact QX.B TYok | exact QCd (s1) | exact QCd (t1) | exact QCd (t2)); exact rfl) | refine SC ?_ | (apply S_isnil TYok; exact rfl; exact rfl; exact rfl; exact Ev.auto; intro bn hnil) | (refine W.condA (ht := fun hb => ?_) (hf := fun hb => ?_) <;> (try simp at hb) <;> (try (exfalso; omega))))
    all_goals exact Fin.ret ResL.auto
theorem daysV_rng {c f t : Int} (h : spanP c f t) : 0 ≤ daysV c f t ∧ daysV c f t ≤ 900000 := by
  obtain ⟨⟨h1, h2⟩, ⟨h3, h4⟩, h5⟩ := h
  have r1 := th_rng (n := f) (by omega)
  have r2 := th_rng (n := t) (by omega)
  have r3 := th_mono h3 h4 h5
  unfold daysV
  split <;> omega
/-- the part of a year -/
noncomputable def shareV (c f t : Int) : Rat := if c = 0 then Rat.divInt (daysV c f t) 360 else if c = 1 then Rat.divInt (daysV c f t) 365 else Rat.divInt (lp t - lp f) 366 + Rat.divInt (daysV c f t - (lp t - lp f)) 365
theorem pw1 : pw 1 = 1048576 := by decide +kernel
theorem small_bd {p q : Int} (hp : -1048576 < p ∧ p < 1048576) (hq : -1048576 < q ∧ q < 1048576) (h : q ≠ 0) : bd (Rat.divInt p q) 1 := by
  have e := pw1
  exact bd_div h (by omega) (by omega)
theorem share_yes (c f t : Int) (h : spanP c f t) : ACalls Try.prog 12 [cI c, cI f, cI t] (.tup [zF (shareV c f t), cI 0]) := by
  have d1 := days_yes c f t h
  have r := daysV_rng h
  obtain ⟨⟨h1, h2⟩, ⟨h3, h4⟩, h5⟩ := h
  have m := lp_mono h4
  by_cases k0 : c = 0
  · rw [show shareV c f t = Rat.divInt (daysV c f t) 360 from if_pos k0]
    have o1 := Of_ok (daysV c f t) 360 (by unfold i64B; omega) (by unfold i64B; omega) (by omega)
    generalize Rat.divInt (daysV c f t) 360 = R at *
    generalize daysV c f t = D at *
    refine ACalls.of_M TYok (qs := [zF R, cI 0]) [.cell 6 26, .tmp 7] 61 Try.func12 (by kernel_rfl) rfl rfl rfl fun G => ?_
    refine W.initA (hw := ?_)
    repeat' (first | ((first | apply U_); (first | exact QX.B TYok | exact QX.Ext TYok | exact QX.Build TYok | exact QCd (d1) | exact QCd (o1)); exact rfl) | refine SX.Alloc TYok (h := ?_) | refine SX.Store TYok (h := ?_) | refine SC ?_ | (apply S_isnil TYok; exact rfl; exact rfl; exact rfl; exact Ev.auto; intro bn hnil) | (refine W.condA (ht := fun hb => ?_) (hf := fun hb => ?_) <;> (try simp at hb) <;> (try (exfalso; omega))))
    all_goals exact FinM.ret ResM.auto
  by_cases k1 : c = 1
  · rw [show shareV c f t = Rat.divInt (daysV c f t) 365 by unfold shareV; rw [if_neg k0, if_pos k1]]
    have o1 := Of_ok (daysV c f t) 365 (by unfold i64B; omega) (by unfold i64B; omega) (by omega)
    generalize Rat.divInt (daysV c f t) 365 = R at *
    generalize daysV c f t = D at *
    refine ACalls.of_M TYok (qs := [zF R, cI 0]) [.cell 6 26, .tmp 7] 61 Try.func12 (by kernel_rfl) rfl rfl rfl fun G => ?_
    refine W.initA (hw := ?_)
    repeat' (first | ((first | apply U_); (first | exact QX.B TYok | exact QX.Ext TYok | exact QX.Build TYok | exact QCd (d1) | exact QCd (o1)); exact rfl) | refine SX.Alloc TYok (h := ?_) | refine SX.Store TYok (h := ?_) | refine SC ?_ | (apply S_isnil TYok; exact rfl; exact rfl; exact rfl; exact Ev.auto; intro bn hnil) | (refine W.condA (ht := fun hb => ?_) (hf := fun hb => ?_) <;> (try simp at hb) <;> (try (exfalso; omega))))
    all_goals exact FinM.ret ResM.auto
  · have e : daysV c f t = t - f := if_neg k0
    have b1 := small_bd (p := lp t - lp f) (q := 366) (by omega) (by omega) (by omega)
    have b2 := small_bd (p := daysV c f t - (lp t - lp f)) (q := 365) (by omega) (by omega) (by omega)
    have ad := add_bd (k := 2) (by omega) b1 b2 (by omega)
    rw [show shareV c f t = Rat.divInt (lp t - lp f) 366 + Rat.divInt (daysV c f t - (lp t - lp f)) 365 by unfold shareV; rw [if_neg k0, if_neg k1]]
    have a1 := add_yes _ _ (bd_ok b1 (by omega)) (bd_ok b2 (by omega)) ad.2
    have l1 := pleap_ok f (by omega)
    have l2 := pleap_ok t (by omega)
    have rf := lp_rng h3
    have rt := lp_rng (n := t) (by omega)
    have o1 := Of_ok (lp t - lp f) 366 (by unfold i64B; omega) (by unfold i64B; omega) (by omega)
    have o2 := Of_ok (daysV c f t - (lp t - lp f)) 365 (by unfold i64B; omega) (by unfold i64B; omega) (by omega)
    generalize Rat.divInt (lp t - lp f) 366 + Rat.divInt (daysV c f t - (lp t - lp f)) 365 = R at *
    generalize Rat.divInt (lp t - lp f) 366 = R1 at *
    generalize Rat.divInt (daysV c f t - (lp t - lp f)) 365 = R2 at *
    generalize daysV c f t = D at *
    generalize lp t = T at *
    generalize lp f = F at *
    refine ACalls.of_M TYok (qs := [zF R, cI 0]) [.cell 6 26, .tmp 7] 61 Try.func12 (by kernel_rfl) rfl rfl rfl fun G => ?_
    refine W.initA (hw := ?_)
    repeat' (first | ((first | apply U_); (first | exact QX.B TYok | exact QX.Ext TYok | exact QX.Build TYok | exact QCd (d1) | exact QCd (l1) | exact QCd (l2) | exact QCd (o1) | exact QCd (o2) | exact QCd (a1)); exact rfl) | refine SX.Alloc TYok (h := ?_) | refine SX.Store TYok (h := ?_) | refine SC ?_ | (apply S_isnil TYok; exact rfl; exact rfl; exact rfl; exact Ev.auto; intro bn hnil) | (refine W.condA (ht := fun hb => ?_) (hf := fun hb => ?_) <;> (try simp at hb) <;> (try (exfalso; omega))))
    all_goals first
      | exact FinM.ret ResM.auto
      | trace_state
end
end Go.Proofs.Ythddpdfljjhfeaa
end
section
set_option linter.unusedVariables false
set_option linter.unusedSimpArgs false
set_option maxHeartbeats 8000000
namespace Go.Proofs.Ythddpdfljjhfeaa
open Lf Go
attribute [local irreducible] PureOp EffOp Ev RG W Then InBlock Lf.Fin nth App InitE Pick EvL EvD EvP EvR ResL Lf.Lex SubR SubBR FinO FinM ResM ResD FinS val pw digs trimL
set_option linter.unusedSectionVars false
section
theorem rightF_yes {r : Rat} (h : okF r) : rightFB (sgn r.num) (digs (mag r.num)) (sgn r.den) (digs (mag r.den)) = true := by
  have hp := den_pos r
  unfold rightFB
  have c := sgn_cases r.den
  rw [num_right h.1, num_right h.2, decide_eq_true (show sgn r.den = 1 by omega), val_mag, val_mag, sgn_mag, show mag r.den = r.den by omega, num_den_gcd]; rfl
attribute [local irreducible] sgn mag gcdZ quoZ remZ fullZ fullE
theorem least_ok (s : Int) (d : List Int) (s' : Int) (d' : List Int) (hd : d.length ≤ 9223372036854775807) (hd' : d'.length ≤ 9223372036854775807) : ACalls Try.prog 38 [fB s d s' d'] (.pv (cB (rightFB s d s' d' && decide (0 ≤ s)))) := by
  have r1 := fright_ok s d s' d' hd hd'
  generalize rightFB s d s' d' = b at *
  refine ACalls.of_W (qs := [cB (b && decide (0 ≤ s))]) [2] 11 Try.func38 (by kernel_rfl) rfl rfl rfl fun G => ?_
  refine W.initA (hw := ?_)
  repeat' (first | ((first | apply U_ | (apply Ug_; exact rfl; exact rfl) | (apply Ugq_; exact rfl; exact rfl)); (first | exact QX.B TYok | exact QCd (r1)); exact rfl) | refine SX.Box TYok (h := ?_) | refine SC ?_ | refine SG ?_ | (refine W.condA (ht := fun hb => ?_) (hf := fun hb => ?_) <;> (try simp at hb) <;> (try (exfalso; omega))))
  all_goals first
    | exact Fin.ret ResL.auto
    | trace_state
abbrev amtP (a u : Int) : Prop := (0 ≤ a ∧ a ≤ 1000000000000000) ∧ (0 ≤ u ∧ u ≤ 1000000000)
section
variable (a u : Int) (s : Int) (d : List Int) (s' : Int) (d' : List Int) (t : Int) (m : List Int) (t' : Int) (m' : List Int) (hd : d.length ≤ 9223372036854775807) (hd' : d'.length ≤ 9223372036854775807) (hm : m.length ≤ 9223372036854775807) (hm' : m'.length ≤ 9223372036854775807)
  (h : ¬ (amtP a u ∧ (rightFB s d s' d' = true ∧ 0 ≤ s) ∧ (rightFB t m t' m' = true ∧ 0 ≤ t)))
include hd hd' hm hm' h
end
/-- the product so far -/
def amtW (u r q : Rat) : List Rat := [u, r, q]
instance : Inhabited Rat := ⟨0⟩
def amtS (a u r q : Rat) : Nat → Rat
  | 0 => a
  | k + 1 => amtS a u r q k * nth (amtW u r q) k
section
variable (a u : Int) (r q : Rat) (ha : amtP a u) (or : okF r) (oq : okF q) (r0 : 0 ≤ r) (q0 : 0 ≤ q)
include ha or oq r0 q0
theorem amount_walk (n : Nat) (hn : n ≤ 3) (hu : ∀ j, j < n → mulOk (amtS a u r q j) (nth (amtW u r q) j)) (e : Int) (V : PV) (he : (e = 0 ∧ n = 3 ∧ V = zF (amtS a u r q 3)) ∨ (e = 6 ∧ n < 3 ∧ V = zF0 ∧ ¬ mulOk (amtS a u r q n) (nth (amtW u r q) n))) :
    ACalls Try.prog 15 [cI a, cI u, zF r, zF q] (.tup [V, cI e]) := by
  have lr := num_len or.1
  have lr' := num_len or.2
  have lq := num_len oq.1
  have lq' := num_len oq.2
  have l1 := least_ok (sgn r.num) (digs (mag r.num)) (sgn r.den) (digs (mag r.den)) (by omega) (by omega)
  have l2 := least_ok (sgn q.num) (digs (mag q.num)) (sgn q.den) (digs (mag q.den)) (by omega) (by omega)
  have r1 : ¬ sgn r.num < 0 := fun k => by have := (sgn_neg r).1 k; grind
  have q1 : ¬ sgn q.num < 0 := fun k => by have := (sgn_neg q).1 k; grind
  have e1 : (rightFB (sgn r.num) (digs (mag r.num)) (sgn r.den) (digs (mag r.den)) && decide (0 ≤ sgn r.num)) = true := by
    rw [rightF_yes or, decide_eq_true (by omega)]; rfl
  have e2 : (rightFB (sgn q.num) (digs (mag q.num)) (sgn q.den) (digs (mag q.den)) && decide (0 ≤ sgn q.num)) = true := by
    rw [rightF_yes oq, decide_eq_true (by omega)]; rfl
  rw [e1] at l1
  rw [e2] at l2
  obtain ⟨⟨a1, a2⟩, u1, u2⟩ := ha
  have oa := Of_ok a 1 (by unfold i64B; omega) (by unfold i64B; omega) (by omega)
  have ou := Of_ok u 1 (by unfold i64B; omega) (by unfold i64B; omega) (by omega)
  rw [divInt_one] at oa ou
  have okA : ∀ j, j ≤ n → okF (amtS a u r q j) := fun j => by
    induction j with
    | zero => intro _; exact okF_int (by unfold i64B; omega)
    | succ j ih => intro h; exact mulOk_okF (hu j (by omega))
  have okW : ∀ j, j < 3 → okF (nth (amtW u r q) j) := fun j hj => by
    have : j = 0 ∨ j = 1 ∨ j = 2 := by omega
    rcases this with rfl | rfl | rfl
    · rw [nth_eq (show 0 < (amtW u r q).length from by show 0 < 3; decide)]; exact okF_int (n := u) (by unfold i64B; omega)
    · rw [nth_eq (show 1 < (amtW u r q).length from by show 1 < 3; decide)]; exact or
    · rw [nth_eq (show 2 < (amtW u r q).length from by show 2 < 3; decide)]; exact oq
  refine ACalls.of_M TYok (qs := [V, cI e]) [.cell 8 26, .tmp 9] 75 Try.func15 (by kernel_rfl) rfl rfl rfl fun G => ?_
  refine W.initA (hw := ?_)
  repeat' (first | ((first | apply U_ | (apply Ug_; exact rfl; exact rfl) | (apply Ugq_; exact rfl; exact rfl)); (first | exact QX.B TYok | exact QX.Len TYok | exact QX.Idx TYok | exact QX.Ext TYok | exact QX.Build TYok | exact QCd (l1) | exact QCd (l2) | exact QCd (oa) | exact QCd (ou)); exact rfl) | refine SX.Alloc TYok (h := ?_) | refine SX.Store TYok (h := ?_) | refine SX.Lit TYok (h := ?_) | refine SX.Box TYok (h := ?_) | refine SC ?_ | refine SG ?_ | (refine W.condA (ht := fun hb => ?_) (hf := fun hb => ?_) <;> (try simp at hb) <;> (try (exfalso; omega))))
  apply W.loopP (σ := Nat) 75 [8, 10, 56, 57] (fun k => k ≤ n) (fun k => [(58, vI k)]) (fun k => [(8, ⟨26, 4, [[.int .i64 0, .slnil, .int .i64 0, .slnil]]⟩), (10, ⟨26, 4, [encQ (amtS a u r q k)]⟩), (56, ⟨26, 4, (amtW u r q).map encQ⟩)]) (fun k => n - k) (0)
  case hp => repeat (first | exact Pick.nil | apply Pick.cons rfl)
  case h0 =>
    refine ⟨by omega, ?_⟩
    exact Le.auto
  case round =>
    rintro k gk
    apply W.norm (by repeat (first | exact App.nil | apply App.cons))
    have w3 : (amtW u r q).length = 3 := rfl
    by_cases hk : k < n
    · have m1 := fmul_yes _ _ (okA k gk) (okW k (by omega)) (hu k hk)
      have e3 : amtS a u r q (k + 1) = amtS a u r q k * nth (amtW u r q) k := rfl
      rw [← e3] at m1
      clear e3
      generalize hA : amtS a u r q k = A at *
      generalize hB : amtS a u r q (k + 1) = B at *
      generalize amtW u r q = WW at *
      repeat' (first | ((first | apply U_ | (apply Ug_; exact rfl; exact rfl) | (apply Ugq_; exact rfl; exact rfl)); (first | exact QX.B TYok | exact QX.Len TYok | exact QX.Idx TYok | exact QX.Ext TYok | exact QX.Build TYok | exact QCd (m1)); exact rfl) | refine SX.Alloc TYok (h := ?_) | refine SX.Store TYok (h := ?_) | refine SX.Lit TYok (h := ?_) | refine SX.Box TYok (h := ?_) | refine SC ?_ | refine SG ?_ | (refine W.condA (ht := fun hb => ?_) (hf := fun hb => ?_) <;> (try simp at hb) <;> (try (exfalso; omega))))
      all_goals first
        | (refine ⟨k + 1, by omega, ?_, by omega⟩; (try dsimp only); rw [hB]; exact Le.auto)
        | trace_state
    · obtain rfl : k = n := by omega
      rcases he with ⟨rfl, rfl, rfl⟩ | ⟨rfl, h3, rfl, hno⟩
      · generalize amtS a u r q 3 = A at *
        generalize amtW u r q = WW at *
        repeat' (first | ((first | apply U_ | (apply Ug_; exact rfl; exact rfl) | (apply Ugq_; exact rfl; exact rfl)); (first | exact QX.B TYok | exact QX.Len TYok | exact QX.Idx TYok | exact QX.Ext TYok | exact QX.Build TYok); exact rfl) | refine SX.Alloc TYok (h := ?_) | refine SX.Store TYok (h := ?_) | refine SX.Lit TYok (h := ?_) | refine SX.Box TYok (h := ?_) | refine SC ?_ | refine SG ?_ | (refine W.condA (ht := fun hb => ?_) (hf := fun hb => ?_) <;> (try simp at hb) <;> (try (exfalso; omega))))
        all_goals first
          | exact FinM.ret ResM.auto
          | (exfalso; omega)
          | trace_state
      · have m1 := fmul_no _ _ (okA k gk) (okW k (by omega)) hno
        generalize amtS a u r q k = A at *
        generalize amtW u r q = WW at *
        repeat' (first | ((first | apply U_ | (apply Ug_; exact rfl; exact rfl) | (apply Ugq_; exact rfl; exact rfl)); (first | exact QX.B TYok | exact QX.Len TYok | exact QX.Idx TYok | exact QX.Ext TYok | exact QX.Build TYok | exact QCd (m1)); exact rfl) | refine SX.Alloc TYok (h := ?_) | refine SX.Store TYok (h := ?_) | refine SX.Lit TYok (h := ?_) | refine SX.Box TYok (h := ?_) | refine SC ?_ | refine SG ?_ | (refine W.condA (ht := fun hb => ?_) (hf := fun hb => ?_) <;> (try simp at hb) <;> (try (exfalso; omega))))
        all_goals first
          | exact FinM.ret (ResM.cell rfl rfl rfl rfl zeroSubF (ResM.tmp rfl rfl PSub.rfl' ResM.nil))
          | (exfalso; omega)
          | trace_state
theorem amtW_at : nth (amtW u r q) 0 = u ∧ nth (amtW u r q) 1 = r ∧ nth (amtW u r q) 2 = q := by
  refine ⟨?_, ?_, ?_⟩
  · rw [nth_eq (show 0 < (amtW u r q).length from by show 0 < 3; decide)]; rfl
  · rw [nth_eq (show 1 < (amtW u r q).length from by show 1 < 3; decide)]; rfl
  · rw [nth_eq (show 2 < (amtW u r q).length from by show 2 < 3; decide)]; rfl
theorem amount_ok (h : ∀ j, j < 3 → mulOk (amtS a u r q j) (nth (amtW u r q) j)) : ACalls Try.prog 15 [cI a, cI u, zF r, zF q] (.tup [zF (amtS a u r q 3), cI 0]) :=
  amount_walk a u r q ha or oq r0 q0 3 (by omega) h 0 _ (.inl ⟨rfl, rfl, rfl⟩)
end
def flV (r : Rat) : Int := if 0 ≤ quoZ r.num r.den ∧ quoZ r.num r.den ≤ 1000000000000000 then quoZ r.num r.den else 0
def flE (r : Rat) : Int := if 0 ≤ quoZ r.num r.den ∧ quoZ r.num r.den ≤ 1000000000000000 then 0 else 3
theorem fl_ok (r : Rat) (o : okF r) : ACalls Try.prog 17 [zF r] (.tup [cI (flV r), cI (flE r)]) := by
  have r1 := fright_yes r o
  have f1 := floor_ok r o
  have oz := okZ_quo (x := r.num) o.1 (den_ne r)
  have i1 := intZ_ok _ oz
  unfold flV flE
  generalize quoZ r.num r.den = x at *
  by_cases h : 0 ≤ x ∧ x ≤ 1000000000000000
  · have hi : i64B x := by unfold i64B; omega
    rw [show intV x = x from if_pos hi, decide_eq_true hi] at i1
    rw [if_pos h, if_pos h]
    refine ACalls.of_W (qs := [cI x, cI 0]) [2, 3] 26 Try.func17 (by kernel_rfl) rfl rfl rfl fun G => ?_
    refine W.initA (hw := ?_)
    repeat' (first | ((first | apply U_ | (apply Ug_; exact rfl; exact rfl) | (apply Ugq_; exact rfl; exact rfl)); (first | exact QX.B TYok | exact QX.Ext TYok | exact QCd (r1) | exact QCd (f1) | exact QCd (i1)); exact rfl) | refine SX.Box TYok (h := ?_) | refine SC ?_ | refine SG ?_ | (refine W.condA (ht := fun hb => ?_) (hf := fun hb => ?_) <;> (try simp at hb) <;> (try (exfalso; omega))))
    all_goals first
      | exact Fin.ret ResL.auto
      | (exfalso; omega)
      | trace_state
  · rw [if_neg h, if_neg h]
    have hbad : (decide (i64B x) = true ∧ 0 ≤ intV x) ∧ intV x ≤ 1000000000000000 → False := fun q => h (by
      have hi := of_decide_eq_true q.1.1
      rw [show intV x = x from if_pos hi] at q
      exact ⟨q.1.2, q.2⟩)
    generalize decide (i64B x) = b at *
    generalize intV x = v at *
    refine ACalls.of_W (qs := [cI 0, cI 3]) [2, 3] 26 Try.func17 (by kernel_rfl) rfl rfl rfl fun G => ?_
    refine W.initA (hw := ?_)
    repeat' (first | ((first | apply U_ | (apply Ug_; exact rfl; exact rfl) | (apply Ugq_; exact rfl; exact rfl)); (first | exact QX.B TYok | exact QX.Ext TYok | exact QCd (r1) | exact QCd (f1) | exact QCd (i1)); exact rfl) | refine SX.Box TYok (h := ?_) | refine SC ?_ | refine SG ?_ | (refine W.condA (ht := fun hb => ?_) (hf := fun hb => ?_) <;> (try simp at hb) <;> (try (exfalso; first | exact hbad hb | omega))))
    all_goals first
      | exact Fin.ret ResL.auto
      | (exfalso; omega)
      | trace_state
end
end Go.Proofs.Ythddpdfljjhfeaa
end
section
set_option linter.unusedVariables false
set_option linter.unusedSimpArgs false
set_option maxHeartbeats 8000000
namespace Go.Proofs.Ythddpdfljjhfeaa
open Lf Go
attribute [local irreducible] PureOp EffOp Ev RG W Then InBlock Lf.Fin nth App InitE Pick EvL EvD EvP EvR ResL Lf.Lex SubR SubBR FinO FinM ResM ResD FinS val pw digs trimL
section
open CalLaw
theorem th_at {y m d n : Int} (hd : IsDate y m d) (hn : num y m d = n) (h : 0 ≤ n ∧ n ≤ 200000) : th n = thirty y m d := by
  subst hn
  unfold th
  rw [dt_of hd h]
attribute [local irreducible] sgn mag gcdZ quoZ remZ fullZ fullE
theorem of_ok (n m : Int) (h : i64B n) (hm : i64B m) (h0 : m ≠ 0) : ACalls Try.prog 26 [cI n, cI m] (.pv (zF (Rat.divInt n m))) := by
  have n1 := qof_ok n m h hm h0
  generalize Rat.divInt n m = r at *
  refine ACalls.of_M TYok (qs := [zF r]) [.cell 4 26] 14 Try.func26 (by kernel_rfl) rfl rfl rfl fun G => ?_
  refine W.initA (hw := ?_)
  repeat' (first | ((first | apply U_); (first | exact QX.B TYok | exact QX.Ext TYok | exact QCd (n1)); exact rfl) | refine SX.Alloc TYok (h := ?_) | refine SX.Store TYok (h := ?_) | refine SC ?_ | (refine W.condA (ht := fun hb => ?_) (hf := fun hb => ?_) <;> (try simp at hb) <;> (try (exfalso; omega))))
  all_goals exact FinM.ret ResM.auto
theorem is_ok (v : Rat) (e p q : Int) (hv : okF v) (h : i64B p) (hm : i64B q) (h0 : q ≠ 0) : ACalls Try.prog 21 [zF v, cI e, cI p, cI q] (.pv (cB (decide (e = 0) && decide (v = Rat.divInt p q)))) := by
  have n1 := of_ok p q h hm h0
  have o1 := okF_of (i64_ok h) (i64_ok hm) h0
  generalize Rat.divInt p q = r at *
  have s1 := same_ok v r hv o1
  refine ACalls.of_W (qs := [cB (decide (e = 0) && decide (v = r))]) [8] 18 Try.func21 (by kernel_rfl) rfl rfl rfl fun G => ?_
  refine W.initA (hw := ?_)
  repeat' (first | ((first | apply U_ | (apply Ug_; exact rfl; exact rfl) | (apply Ugq_; exact rfl; exact rfl) | apply Lex.u | (apply Lex.g; exact rfl; exact rfl) | (apply Lex.gq; exact rfl; exact rfl)); (first | exact QX.B TYok | exact QCd (n1) | exact QCd (s1)); exact rfl) | refine SX.Box TYok (h := ?_) | refine SC ?_ | (apply S_isnil TYok; exact rfl; exact rfl; exact rfl; exact Ev.auto; intro bn hnil) | refine SG ?_ | (apply W.draw2 (id := 1) [0, 1, 3, 7, 7, 7, 55, 127, 255, 511] [[1], [9], [10], [4, 11], [2, 11], [3, 11], [13, 14, 11], [12, 15, 11], [11, 16], [17]] 10 [(9, 2), (10, 512), (11, 1024), (12, 2064), (13, 2052), (14, 2056), (15, 26624), (16, 38912), (17, 67584), (8, 131072)] mixed (by kernel_rfl) rfl rfl) | (refine W.condA (ht := fun hb => ?_) (hf := fun hb => ?_) <;> (try simp at hb) <;> (try (exfalso; omega))))
  all_goals first
    | exact Fin.ret ResL.auto
    | trace_state
theorem is_yes {v : Rat} {p q : Int} (hv : okF v) (h : i64B p) (hm : i64B q) (h0 : q ≠ 0) (e : v = Rat.divInt p q) : ACalls Try.prog 21 [zF v, cI 0, cI p, cI q] (.pv (cB true)) := by
  have := is_ok v 0 p q hv h hm h0
  rwa [decide_eq_true rfl, decide_eq_true e, Bool.and_self] at this
theorem th_smp : th 0 = 684031 ∧ th 31 = 684061 ∧ th 30 = 684060 ∧ th 59 = 684091 ∧ th 58 = 684088 ∧ th 365 = 684391 := by
  refine ⟨?_, ?_, ?_, ?_, ?_, ?_⟩
  · rw [th_at (y := 1900) (m := 1) (d := 1) ⟨by decide, by decide, by decide, by decide⟩ (by decide) (by decide)]; decide
  · rw [th_at (y := 1900) (m := 2) (d := 1) ⟨by decide, by decide, by decide, by decide⟩ (by decide) (by decide)]; decide
  · rw [th_at (y := 1900) (m := 1) (d := 31) ⟨by decide, by decide, by decide, by decide⟩ (by decide) (by decide)]; decide
  · rw [th_at (y := 1900) (m := 3) (d := 1) ⟨by decide, by decide, by decide, by decide⟩ (by decide) (by decide)]; decide
  · rw [th_at (y := 1900) (m := 2) (d := 28) ⟨by decide, by decide, by decide, by decide⟩ (by decide) (by decide)]; decide
  · rw [th_at (y := 1901) (m := 1) (d := 1) ⟨by decide, by decide, by decide, by decide⟩ (by decide) (by decide)]; decide
theorem lp_smp : lp 31 = 0 ∧ lp 0 = 0 := by decide +kernel
theorem rat_smp : Rat.divInt 30 360 = Rat.divInt 1 12 ∧ Rat.divInt 0 366 + Rat.divInt 31 365 = Rat.divInt 31 365 ∧ Rat.divInt 365 365 = Rat.divInt 1 1 ∧ Rat.divInt 360 360 = Rat.divInt 1 1 ∧ (1000 : Int) * (3 : Int) * Rat.divInt 1 20 * Rat.divInt 1 2 = Rat.divInt 75 1 := by decide +kernel
theorem share_smp : shareV 0 0 31 = Rat.divInt 1 12 ∧ shareV 1 0 31 = Rat.divInt 31 365 ∧ shareV 2 0 31 = Rat.divInt 31 365 ∧ daysV 0 30 59 = 31 ∧ daysV 0 58 59 = 3 ∧ shareV 1 0 365 = Rat.divInt 1 1 ∧ shareV 0 0 365 = Rat.divInt 1 1 := by
  obtain ⟨t1, t2, t3, t4, t5, t6⟩ := th_smp
  obtain ⟨l1, l2⟩ := lp_smp
  obtain ⟨e1, e2, e3, e4, _⟩ := rat_smp
  refine ⟨?_, ?_, ?_, ?_, ?_, ?_, ?_⟩
  · show Rat.divInt (th 31 - th 0) 360 = _
    rw [t1, t2]; exact e1
  · show Rat.divInt (31 - 0) 365 = _
    rfl
  · show Rat.divInt (lp 31 - lp 0) 366 + Rat.divInt (31 - 0 - (lp 31 - lp 0)) 365 = _
    rw [l1, l2]; exact e2
  · show th 59 - th 30 = 31
    rw [t3, t4]; rfl
  · show th 59 - th 58 = 3
    rw [t4, t5]; rfl
  · show Rat.divInt (365 - 0) 365 = _
    exact e3
  · show Rat.divInt (th 365 - th 0) 360 = _
    rw [t1, t6]; exact e4
end
section
theorem mul_smp : mulOk ((1000 : Int) : Rat) ((3 : Int) : Rat) ∧ mulOk (((1000 : Int) : Rat) * ((3 : Int) : Rat)) (Rat.divInt 1 20) ∧ mulOk (((1000 : Int) : Rat) * ((3 : Int) : Rat) * Rat.divInt 1 20) (Rat.divInt 1 2) := by
  unfold mulOk okZ; decide +kernel
theorem ok_smp : okF (Rat.divInt 1 20) ∧ okF (Rat.divInt 1 2) ∧ okF (Rat.divInt 75 1) ∧ okF (Rat.divInt 7 2) ∧ okF (Rat.divInt (-1) 2) ∧ okF (Rat.divInt 1 12) ∧ okF (Rat.divInt 31 365) ∧ okF (Rat.divInt 1 1) := by
  unfold okF okZ; decide +kernel
theorem fl_smp : flV (Rat.divInt 75 1) = 75 ∧ flE (Rat.divInt 75 1) = 0 ∧ flV (Rat.divInt 7 2) = 3 ∧ flE (Rat.divInt 7 2) = 0 ∧ flV (Rat.divInt (-1) 2) = 0 ∧ flE (Rat.divInt (-1) 2) = 3 := by decide +kernel
theorem pos_smp : (0 : Rat) ≤ Rat.divInt 1 20 ∧ (0 : Rat) ≤ Rat.divInt 1 2 := by decide +kernel
attribute [local irreducible] sgn mag gcdZ quoZ remZ fullZ fullE flV flE
theorem amt_smp : amtS ((1000 : Int) : Rat) ((3 : Int) : Rat) (Rat.divInt 1 20) (Rat.divInt 1 2) 3 = Rat.divInt 75 1 ∧ ∀ j, j < 3 → mulOk (amtS ((1000 : Int) : Rat) ((3 : Int) : Rat) (Rat.divInt 1 20) (Rat.divInt 1 2) j) (nth (amtW ((3 : Int) : Rat) (Rat.divInt 1 20) (Rat.divInt 1 2)) j) := by
  obtain ⟨m1, m2, m3⟩ := mul_smp
  obtain ⟨o1, o2, _⟩ := ok_smp
  obtain ⟨p1, p2⟩ := pos_smp
  obtain ⟨w0, w1, w2⟩ := amtW_at 1000 3 (Rat.divInt 1 20) (Rat.divInt 1 2) ⟨by decide, by decide⟩ o1 o2 p1 p2
  have s1 : amtS ((1000 : Int) : Rat) ((3 : Int) : Rat) (Rat.divInt 1 20) (Rat.divInt 1 2) 1 = ((1000 : Int) : Rat) * ((3 : Int) : Rat) := by
    show _ * nth _ 0 = _
    rw [w0]; rfl
  have s2 : amtS ((1000 : Int) : Rat) ((3 : Int) : Rat) (Rat.divInt 1 20) (Rat.divInt 1 2) 2 = ((1000 : Int) : Rat) * ((3 : Int) : Rat) * Rat.divInt 1 20 := by
    show amtS _ _ _ _ 1 * nth _ 1 = _
    rw [w1, s1]
  have s3 : amtS ((1000 : Int) : Rat) ((3 : Int) : Rat) (Rat.divInt 1 20) (Rat.divInt 1 2) 3 = ((1000 : Int) : Rat) * ((3 : Int) : Rat) * Rat.divInt 1 20 * Rat.divInt 1 2 := by
    show amtS _ _ _ _ 2 * nth _ 2 = _
    rw [w2, s2]
  refine ⟨by rw [s3]; exact rat_smp.2.2.2.2, fun j hj => ?_⟩
  have : j = 0 ∨ j = 1 ∨ j = 2 := by omega
  rcases this with rfl | rfl | rfl
  · rw [w0]; exact m1
  · rw [w1, s1]; exact m2
  · rw [w2, s2]; exact m3
theorem small_ok : ACalls Try.prog 8 [] (.pv (cB true)) := by
  have ix : ∀ n : Int, (-1000 ≤ n ∧ n ≤ 1000) → i64B n := fun n h => by unfold i64B; omega
  obtain ⟨s1, s2, s3, d1, d2, s4, s5⟩ := share_smp
  obtain ⟨o1, o2, o3, o4, o5, o6, o7, o8⟩ := ok_smp
  obtain ⟨p1, p2⟩ := pos_smp
  obtain ⟨f1, f2, f3, f4, f5, f6⟩ := fl_smp
  obtain ⟨a1, a2⟩ := amt_smp
  have c1 := share_yes 0 0 31 (by decide)
  have c2 := share_yes 1 0 31 (by decide)
  have c3 := share_yes 2 0 31 (by decide)
  have c4 := days_yes 0 30 59 (by decide)
  have c5 := days_yes 0 58 59 (by decide)
  have c6 := share_yes 1 0 365 (by decide)
  have c7 := share_yes 0 0 365 (by decide)
  rw [s1] at c1
  rw [s2] at c2
  rw [s3] at c3
  rw [d1] at c4
  rw [d2] at c5
  rw [s4] at c6
  rw [s5] at c7
  have i1 := is_yes (p := 1) (q := 12) o6 (ix _ (by omega)) (ix _ (by omega)) (by omega) rfl
  have i2 := is_yes (p := 31) (q := 365) o7 (ix _ (by omega)) (ix _ (by omega)) (by omega) rfl
  have i3 := is_yes (p := 1) (q := 1) o8 (ix _ (by omega)) (ix _ (by omega)) (by omega) rfl
  have i4 := is_yes (p := 75) (q := 1) o3 (ix _ (by omega)) (ix _ (by omega)) (by omega) rfl
  have k1 := of_ok 1 20 (ix _ (by omega)) (ix _ (by omega)) (by omega)
  have k2 := of_ok 1 2 (ix _ (by omega)) (ix _ (by omega)) (by omega)
  have k3 := of_ok 7 2 (ix _ (by omega)) (ix _ (by omega)) (by omega)
  have k4 := of_ok (-1) 2 (ix _ (by omega)) (ix _ (by omega)) (by omega)
  have m1 := amount_ok 1000 3 (Rat.divInt 1 20) (Rat.divInt 1 2) ⟨by decide, by decide⟩ o1 o2 p1 p2 a2
  rw [a1] at m1
  have g1 := fl_ok _ o3
  have g2 := fl_ok _ o4
  have g3 := fl_ok _ o5
  rw [f1, f2] at g1
  rw [f3, f4] at g2
  rw [f5, f6] at g3
  clear s1 s2 s3 s4 s5 d1 d2 o1 o2 o3 o4 o5 o6 o7 o8 p1 p2 f1 f2 f3 f4 f5 f6 a1 a2 ix
  generalize Rat.divInt 1 12 = r1 at *
  generalize Rat.divInt 31 365 = r2 at *
  generalize Rat.divInt 1 1 = r3 at *
  generalize Rat.divInt 75 1 = r4 at *
  generalize Rat.divInt 1 20 = r5 at *
  generalize Rat.divInt 1 2 = r6 at *
  generalize Rat.divInt 7 2 = r7 at *
  generalize Rat.divInt (-1) 2 = r8 at *
  refine ACalls.of_W (qs := [cB true]) [0] 138 Try.func8 (by kernel_rfl) rfl rfl rfl fun G => ?_
  refine W.initA (hw := ?_)
  repeat' (first | ((first | apply U_ | (apply Ug_; exact rfl; exact rfl) | (apply Ugq_; exact rfl; exact rfl)); (first | exact QX.B TYok | exact QX.Ext TYok | exact QCd (c1) | exact QCd (c2) | exact QCd (c3) | exact QCd (c4) | exact QCd (c5) | exact QCd (c6) | exact QCd (c7) | exact QCd (i1) | exact QCd (i2) | exact QCd (i3) | exact QCd (i4) | exact QCd (k1) | exact QCd (k2) | exact QCd (k3) | exact QCd (k4) | exact QCd (m1) | exact QCd (g1) | exact QCd (g2) | exact QCd (g3)); exact rfl) | refine SX.Alloc TYok (h := ?_) | refine SX.Store TYok (h := ?_) | refine SC ?_ | (apply S_isnil TYok; exact rfl; exact rfl; exact rfl; exact Ev.auto; intro bn hnil) | refine SG ?_ | (refine W.condA (ht := fun hb => ?_) (hf := fun hb => ?_) <;> (try simp at hb) <;> (try (exfalso; omega))))
  all_goals first
    | exact Fin.ret ResL.auto
    | trace_state
end
end Go.Proofs.Ythddpdfljjhfeaa
end
section
set_option linter.unusedVariables false
set_option linter.unusedSimpArgs false
set_option linter.unusedSectionVars false
namespace Lf
open Go Go.RowKit Go.ChangeShapes Go.WideShapes Go.ChangeAt
def allΦ (w : World) : Frz := fun b => match w.heap[b]? with | some (.cells c _ _) => some c | _ => none
theorem fits_all (w : World) : Fits (allΦ w) w := by
  intro b cs h
  unfold allΦ at h
  split at h
  · rename_i c e l he
    obtain rfl := Option.some.inj h
    exact ⟨_, _, he⟩
  · cases h
section
variable {P : Program} {T : TT} (hT : TOK P T)
include hT
end
theorem Fin.retB {A : St} {t : Nat} {b : Bool} (h : lk A.env t = some (True, .pv (.one (.bool b)))) (hb : b = true) : Lf.Fin [t] [cB true] .ret A :=
  Fin.ret (ResL.cons h rfl (PSub.of_eq (by rw [hb])) ResL.nil)
/-- arguments, one after the other -/
def ArgsL (Φ : Frz) : List Value → List PV → Prop
  | [], [] => True
  | v :: vs, p :: ps => PRel Φ v p ∧ ArgsL Φ vs ps
  | _, _ => False
theorem ArgsL.rel {Φ : Frz} : ∀ {vs : List Value} {ps : List PV}, ArgsL Φ vs ps → vs.length = ps.length ∧ ∀ (j : Nat) (p : PV), ps[j]? = some p → ∃ v, vs[j]? = some v ∧ PRel Φ v p
  | [], [], _ => ⟨rfl, fun j p h => by simp at h⟩
  | v :: vs, p :: ps, h => by
    obtain ⟨h1, h2⟩ := ArgsL.rel h.2
    refine ⟨by simp [h1], fun j q hq => ?_⟩
    cases j with
    | zero => simp at hq; exact ⟨v, rfl, hq ▸ h.1⟩
    | succ j => simpa using h2 j q (by simpa using hq)
theorem ArgsRel.of {Φ : Frz} {vs : List Value} {ps : List PV} (h : ArgsL Φ vs ps) : ArgsRel Φ vs.toArray ps := ⟨by simpa using h.rel.1, fun j p hp => by simpa using h.rel.2 j p hp⟩
theorem ArgsL.nil {Φ : Frz} : ArgsL Φ [] [] := trivial
theorem ArgsL.cons {Φ : Frz} {v : Value} {vs : List Value} {p : PV} {ps : List PV} (h : PRel Φ v p) (hs : ArgsL Φ vs ps) : ArgsL Φ (v :: vs) (p :: ps) := ⟨h, hs⟩
end Lf
end
section
set_option linter.unusedVariables false
set_option linter.unusedSimpArgs false
set_option maxHeartbeats 8000000
namespace Go.Proofs.Ythddpdfljjhfeaa
open Lf Go
attribute [local irreducible] PureOp EffOp Ev RG W Then InBlock Lf.Fin nth App InitE Pick EvL EvD EvP EvR ResL Lf.Lex SubR SubBR FinO FinM ResM ResD FinS val pw digs trimL
section
theorem fl_spec (r : Rat) : ((quoZ r.num r.den : Int) : Rat) ≤ r ∧ r < ((quoZ r.num r.den + 1 : Int) : Rat) := by
  have hd := den_pos r
  have h1 := quo_rem r.num r.den
  have h2 := (rem_rng (x := r.num) (y := r.den) (by omega)).1 hd
  generalize quoZ r.num r.den = q at *
  generalize remZ r.num r.den = m at *
  constructor
  · rw [Rat.le_iff]
    show q * (r.den : Int) ≤ r.num * 1
    rw [Int.mul_one, h1, Int.mul_comm q]
    omega
  · rw [Rat.lt_iff]
    show r.num * 1 < (q + 1) * (r.den : Int)
    rw [Int.mul_one, h1, Int.add_mul, Int.mul_comm q]
    omega
theorem icast_lt {a b : Int} (h : (a : Rat) < (b : Rat)) : a < b := Rat.intCast_lt_intCast.1 h
theorem floors {X Y Z : Rat} (hx : 0 ≤ X) (hy : 0 ≤ Y) (he : X + Y = Z) : (flE Z = 3 ∨ (flE Z = 0 ∧ flE X = 0 ∧ flE Y = 0 ∧ flV X + flV Y ≤ flV Z ∧ flV Z ≤ flV X + flV Y + 1)) := by
  obtain ⟨x1, x2⟩ := fl_spec X
  obtain ⟨y1, y2⟩ := fl_spec Y
  obtain ⟨z1, z2⟩ := fl_spec Z
  unfold flE flV
  generalize quoZ X.num X.den = a at *
  generalize quoZ Y.num Y.den = b at *
  generalize quoZ Z.num Z.den = c at *
  by_cases h : 0 ≤ c ∧ c ≤ 1000000000000000
  · right
    have a0 : 0 < a + 1 := icast_lt (by grind)
    have b0 : 0 < b + 1 := icast_lt (by grind)
    have ac : a < c + 1 := icast_lt (by grind)
    have bc : b < c + 1 := icast_lt (by grind)
    have l1 : a + b < c + 1 := icast_lt (by rw [Rat.intCast_add]; grind)
    have l2 : c < a + 1 + (b + 1) := icast_lt (by rw [Rat.intCast_add (a + 1) (b + 1)]; grind)
    rw [if_pos h, if_pos h, if_pos ⟨by omega, by omega⟩, if_pos ⟨by omega, by omega⟩, if_pos ⟨by omega, by omega⟩, if_pos ⟨by omega, by omega⟩]
    omega
  · exact .inl (if_neg h)
theorem flV_rng (r : Rat) : 0 ≤ flV r ∧ flV r ≤ 1000000000000000 := by
  unfold flV
  split <;> omega
theorem amt_small (f a : Int) (x y : Rat) (hf : 0 ≤ f ∧ f ≤ 1000000000) (ha : 0 ≤ a ∧ a ≤ 1000000000) (bx : bd x 1) (by' : bd y 1) (x0 : 0 ≤ x) (y0 : 0 ≤ y) :
    (amtS (f : Rat) (a : Rat) x y 3 = (f : Rat) * a * x * y ∧ bd (amtS (f : Rat) (a : Rat) x y 3) 10) ∧ ∀ j, j < 3 → mulOk (amtS (f : Rat) (a : Rat) x y j) (nth (amtW (a : Rat) x y) j) := by
  obtain ⟨w0, w1, w2⟩ := amtW_at f a x y ⟨by omega, by omega⟩ (bd_ok bx (by omega)) (bd_ok by' (by omega)) x0 y0
  have s1 : amtS (f : Rat) (a : Rat) x y 1 = (f : Rat) * a := by
    show _ * nth _ 0 = _
    rw [w0]; rfl
  have s2 : amtS (f : Rat) (a : Rat) x y 2 = (f : Rat) * a * x := by
    show amtS _ _ _ _ 1 * nth _ 1 = _
    rw [w1, s1]
  have s3 : amtS (f : Rat) (a : Rat) x y 3 = (f : Rat) * a * x * y := by
    show amtS _ _ _ _ 2 * nth _ 2 = _
    rw [w2, s2]
  have b1 := mul_bd (k := 8) (by omega) (int_bd (n := f) (by omega)) (int_bd (n := a) (by omega)) (by omega)
  have b2 := mul_bd (k := 9) (by omega) b1.1 bx (by omega)
  have b3 := mul_bd (k := 10) (by omega) b2.1 by' (by omega)
  refine ⟨⟨s3, by rw [s3]; exact b3.1⟩, fun j hj => ?_⟩
  have : j = 0 ∨ j = 1 ∨ j = 2 := by omega
  rcases this with rfl | rfl | rfl
  · rw [w0]; exact b1.2
  · rw [w1, s1]; exact b2.2
  · rw [w2, s2]; exact b3.2
theorem divInt_nn {p q : Int} (hp : 0 ≤ p) (hq : 0 < q) : 0 ≤ Rat.divInt p q := Rat.divInt_nonneg hp (by omega)
attribute [local irreducible] sgn mag gcdZ quoZ remZ fullZ fullE flV flE
theorem sums_ok (f a b p q r s : Int) (hf : 0 ≤ f) (ha : 0 ≤ a) (hb : 0 ≤ b) (hp : 0 ≤ p) (hq : 0 ≤ q) (hr : 0 ≤ r) (hs : 0 ≤ s) :
    ACalls Try.prog 7 [.one (.int .u32 f), .one (.int .u32 a), .one (.int .u32 b), .one (.int .u32 p), .one (.int .u32 q), .one (.int .u32 r), .one (.int .u32 s)] (.pv (cB true)) := by
  have h0 := small_ok
  have k1 := of_ok (p % 1000001) (q % 1000000 + 1) (by unfold i64B; omega) (by unfold i64B; omega) (by omega)
  have k2 := of_ok (r % 1000001) (s % 1000000 + 1) (by unfold i64B; omega) (by unfold i64B; omega) (by omega)
  have bx := small_bd (p := p % 1000001) (q := q % 1000000 + 1) (by omega) (by omega) (by omega)
  have by' := small_bd (p := r % 1000001) (q := s % 1000000 + 1) (by omega) (by omega) (by omega)
  have x0 := divInt_nn (p := p % 1000001) (q := q % 1000000 + 1) (by omega) (by omega)
  have y0 := divInt_nn (p := r % 1000001) (q := s % 1000000 + 1) (by omega) (by omega)
  have fr : 0 ≤ f % 1000000001 ∧ f % 1000000001 ≤ 1000000000 := by omega
  have ar : 0 ≤ a % 500000001 ∧ a % 500000001 ≤ 500000000 := by omega
  have br : 0 ≤ b % 500000001 ∧ b % 500000001 ≤ 500000000 := by omega
  generalize Rat.divInt (p % 1000001) (q % 1000000 + 1) = x at *
  generalize Rat.divInt (r % 1000001) (s % 1000000 + 1) = y at *
  generalize hF : f % 1000000001 = F at *
  generalize hA : a % 500000001 = A at *
  generalize hB : b % 500000001 = B at *
  obtain ⟨⟨e1, b1⟩, m1⟩ := amt_small F A x y fr (by omega) bx by' x0 y0
  obtain ⟨⟨e2, b2⟩, m2⟩ := amt_small F B x y fr (by omega) bx by' x0 y0
  obtain ⟨⟨e3, b3⟩, m3⟩ := amt_small F (A + B) x y fr (by omega) bx by' x0 y0
  have ox := bd_ok bx (by omega)
  have oy := bd_ok by' (by omega)
  have c1 := amount_ok F A x y ⟨by omega, by omega⟩ ox oy x0 y0 m1
  have c2 := amount_ok F B x y ⟨by omega, by omega⟩ ox oy x0 y0 m2
  have c3 := amount_ok F (A + B) x y ⟨by omega, by omega⟩ ox oy x0 y0 m3
  have f0 : (0 : Rat) ≤ (F : Rat) := by exact_mod_cast fr.1
  have a0 : (0 : Rat) ≤ (A : Rat) := by exact_mod_cast ar.1
  have b0 : (0 : Rat) ≤ (B : Rat) := by exact_mod_cast br.1
  have n1 : 0 ≤ amtS (F : Rat) (A : Rat) x y 3 := by rw [e1]; exact Rat.mul_nonneg (Rat.mul_nonneg (Rat.mul_nonneg f0 a0) x0) y0
  have n2 : 0 ≤ amtS (F : Rat) (B : Rat) x y 3 := by rw [e2]; exact Rat.mul_nonneg (Rat.mul_nonneg (Rat.mul_nonneg f0 b0) x0) y0
  have es : amtS (F : Rat) (A : Rat) x y 3 + amtS (F : Rat) (B : Rat) x y 3 = amtS (F : Rat) ((A + B : Int) : Rat) x y 3 := by
    rw [e1, e2, e3, Rat.intCast_add]; grind
  have ad := add_bd (k := 20) (by omega) b1 b2 (by omega)
  have o1 := bd_ok b1 (by omega)
  have o2 := bd_ok b2 (by omega)
  have o3 := bd_ok b3 (by omega)
  have z1 := add_yes _ _ o1 o2 ad.2
  rw [es] at z1
  have s1 := same_ok _ _ o3 o3
  rw [decide_eq_true rfl] at s1
  have g1 := fl_ok _ o1
  have g2 := fl_ok _ o2
  have g3 := fl_ok _ o3
  have cm := fcmp_ok _ _ o1 o3
  have fl := floors n1 n2 es
  clear e1 e2 e3 m1 m2 m3 ad b1 b2 b3 es n1 n2
  generalize amtS (F : Rat) (A : Rat) x y 3 = X at *
  generalize amtS (F : Rat) (B : Rat) x y 3 = Y at *
  generalize amtS (F : Rat) ((A + B : Int) : Rat) x y 3 = Z at *
  generalize cmpR X Z = C at *
  have vx := flV_rng X
  have vy := flV_rng Y
  have vz := flV_rng Z
  generalize flE X = EX at *
  generalize flE Y = EY at *
  generalize flE Z = EZ at *
  generalize flV X = VX at *
  generalize flV Y = VY at *
  generalize flV Z = VZ at *
  subst hF hA hB
  rcases fl with rfl | ⟨rfl, rfl, rfl, l1, l2⟩
  case inl =>
    refine ACalls.of_W (qs := [cB true]) [14] 169 Try.func7 (by kernel_rfl) rfl rfl rfl fun G => ?_
    refine W.initA (hw := ?_)
    repeat' (first | ((first | apply U_ | (apply Ug_; exact rfl; exact rfl) | (apply Ugq_; exact rfl; exact rfl)); (first | exact QX.B TYok | exact QX.Ext TYok | exact QX.Conv TYok | exact QCd (h0) | exact QCd (k1) | exact QCd (k2) | exact QCd (c1) | exact QCd (c2) | exact QCd (c3) | exact QCd (z1) | exact QCd (s1) | exact QCd (g1) | exact QCd (g2) | exact QCd (g3) | exact QCd (cm)); exact rfl) | refine SX.Alloc TYok (h := ?_) | refine SX.Store TYok (h := ?_) | refine SC ?_ | (apply S_isnil TYok; exact rfl; exact rfl; exact rfl; exact Ev.auto; intro bn hnil) | refine SG ?_ | (refine W.condA (ht := fun hb => ?_) (hf := fun hb => ?_) <;> (try simp at hb) <;> (try (exfalso; omega))))
    all_goals first
      | exact Fin.ret ResL.auto
      | exact Fin.retB rfl (by simp)
      | (exfalso; omega)
      | trace_state
  case inr =>
    refine ACalls.of_W (qs := [cB true]) [14] 169 Try.func7 (by kernel_rfl) rfl rfl rfl fun G => ?_
    refine W.initA (hw := ?_)
    repeat' (first | ((first | apply U_ | (apply Ug_; exact rfl; exact rfl) | (apply Ugq_; exact rfl; exact rfl)); (first | exact QX.B TYok | exact QX.Ext TYok | exact QX.Conv TYok | exact QCd (h0) | exact QCd (k1) | exact QCd (k2) | exact QCd (c1) | exact QCd (c2) | exact QCd (c3) | exact QCd (z1) | exact QCd (s1) | exact QCd (g1) | exact QCd (g2) | exact QCd (g3) | exact QCd (cm)); exact rfl) | refine SX.Alloc TYok (h := ?_) | refine SX.Store TYok (h := ?_) | refine SC ?_ | (apply S_isnil TYok; exact rfl; exact rfl; exact rfl; exact Ev.auto; intro bn hnil) | refine SG ?_ | (refine W.condA (ht := fun hb => ?_) (hf := fun hb => ?_) <;> (try simp at hb) <;> (try (exfalso; omega))))
    all_goals first
      | exact Fin.ret ResL.auto
      | (refine Fin.retB rfl ?_; simp only [Bool.and_eq_true, decide_eq_true_iff]; exact ⟨⟨trivial, l1⟩, l2⟩)
      | (exfalso; omega)
      | trace_state
end
end Go.Proofs.Ythddpdfljjhfeaa
end
section
namespace Go.Proofs.Ythddpdfljjhfeaa
open Lf Go Go.ChangeShapes Go.WideShapes Go.ChangeAt Go.RowKit
namespace SumsRow
theorem own : ownKnob Try.prog.godebug = none := by kernel_rfl
set_option maxRecDepth 100000 in
theorem lifted (os : Os) (started : os.Started) (H : Type) (enc : TypeId × Value → H) :
    ReturnsInHanded {} Try.checked os 7 .any (Rows.accrueSumsSpec.pre6 enc Try.prog Try.f7 Rows.accrueSumsRow.domain false) (Rows.accrueSumsSpec.post enc Try.prog Try.f7 false true false false) := by
  refine returnsInHanded_of_change (C := Try.checked) own started (by kernel_rfl) Try.func7
    (ChangeSpec.witness6 (enc := enc) (C := Try.checked) false ⟨#[], #[.int .u32 0, .int .u32 0, .int .u32 0, .int .u32 0, .int .u32 0, .int .u32 0, .int .u32 0], []⟩ 8 (by kernel_rfl) (by kernel_rfl) (by kernel_rfl) (by kernel_rfl)) ?_
  intro W base args ds gs before hval0 hW hcnd _
  have hval : ∀ (j : Nat) t v, Try.f7.params[j]? = some t → args[j]? = some v → Value.okWide Try.prog W .any base t v := hval0
  have hW' := hW
  obtain ⟨p, q, hA0, hV, rfl, hfz, hnd⟩ := hW
  have hA : DataW.TrodAll enc Try.prog W 0 (fun _ => true) true Try.f7.params.toList args.toList ds p := hA0
  rw [Try.params7] at hA hval
  obtain ⟨v0, vs0, d0, ds0, p0, q0, hargs, rfl, rfl, h0, r0⟩ := trodAll_cons hA
  obtain ⟨v1, vs1, d1, ds1, p1, q1, rfl, rfl, rfl, h1, r1⟩ := trodAll_cons r0
  obtain ⟨v2, vs2, d2, ds2, p2, q2, rfl, rfl, rfl, h2, r2⟩ := trodAll_cons r1
  obtain ⟨v3, vs3, d3, ds3, p3, q3, rfl, rfl, rfl, h3, r3⟩ := trodAll_cons r2
  obtain ⟨v4, vs4, d4, ds4, p4, q4, rfl, rfl, rfl, h4, r4⟩ := trodAll_cons r3
  obtain ⟨v5, vs5, d5, ds5, p5, q5, rfl, rfl, rfl, h5, r5⟩ := trodAll_cons r4
  obtain ⟨v6, vs6, d6, ds6, p6, q6, rfl, rfl, rfl, h6, r6⟩ := trodAll_cons r5
  obtain ⟨rfl, rfl, rfl⟩ := trodAll_nil r6
  obtain rfl : args = #[v0, v1, v2, v3, v4, v5, v6] := by cases args; simp_all
  obtain ⟨rfl, rfl⟩ := trodVars_none hV
  obtain ⟨a0, rfl, rfl, rfl, w0⟩ := open_int Try.underlying45 (hval 0 45 v0 rfl rfl) h0
  obtain ⟨a1, rfl, rfl, rfl, w1⟩ := open_int Try.underlying45 (hval 1 45 v1 rfl rfl) h1
  obtain ⟨a2, rfl, rfl, rfl, w2⟩ := open_int Try.underlying45 (hval 2 45 v2 rfl rfl) h2
  obtain ⟨a3, rfl, rfl, rfl, w3⟩ := open_int Try.underlying45 (hval 3 45 v3 rfl rfl) h3
  obtain ⟨a4, rfl, rfl, rfl, w4⟩ := open_int Try.underlying45 (hval 4 45 v4 rfl rfl) h4
  obtain ⟨a5, rfl, rfl, rfl, w5⟩ := open_int Try.underlying45 (hval 5 45 v5 rfl rfl) h5
  obtain ⟨a6, rfl, rfl, rfl, w6⟩ := open_int Try.underlying45 (hval 6 45 v6 rfl rfl) h6
  clear hA0 hval0
  have hc := (sums_ok a0 a1 a2 a3 a4 a5 a6 (by have q := w0; simp [Lit.wf] at q; exact q.1) (by have q := w1; simp [Lit.wf] at q; exact q.1) (by have q := w2; simp [Lit.wf] at q; exact q.1) (by have q := w3; simp [Lit.wf] at q; exact q.1) (by have q := w4; simp [Lit.wf] at q; exact q.1) (by have q := w5; simp [Lit.wf] at q; exact q.1) (by have q := w6; simp [Lit.wf] at q; exact q.1)).calls (allΦ W) W #[.int .u32 a0, .int .u32 a1, .int .u32 a2, .int .u32 a3, .int .u32 a4, .int .u32 a5, .int .u32 a6] (fits_all W)
    (ArgsRel.of (ArgsL.cons (Rel.int _ _) (ArgsL.cons (Rel.int _ _) (ArgsL.cons (Rel.int _ _) (ArgsL.cons (Rel.int _ _) (ArgsL.cons (Rel.int _ _) (ArgsL.cons (Rel.int _ _) (ArgsL.cons (Rel.int _ _) ArgsL.nil))))))))
  refine hc.mono fun e W' ⟨v, Φ', he, hv, _, _, _, bel⟩ => ?_
  subst he
  obtain rfl : v = .bool true := AVRel.bool hv
  exact ⟨_, rfl, _, _, _, [], _, [], hW', trodAll_mk1 (shut_bool Try.underlying4 _), (trodAll_cons_mk (shut_int Try.underlying45 w0) (trodAll_cons_mk (shut_int Try.underlying45 w1) (trodAll_cons_mk (shut_int Try.underlying45 w2) (trodAll_cons_mk (shut_int Try.underlying45 w3) (trodAll_cons_mk (shut_int Try.underlying45 w4) (trodAll_cons_mk (shut_int Try.underlying45 w5) (trodAll_cons_mk (shut_int Try.underlying45 w6) trodAll_mk0))))))), rfl, bel.frame _, fun h => by cases h⟩
theorem over : Rows.accrueSumsRow.holds Try.pinned (OpenSpec.ofChange Rows.accrueSumsSpec) :=
  OpenClaim.holds_of_wide 7 Try.f7 rfl rfl rfl rfl rfl rfl rfl ⟨rfl, rfl, rfl, rfl, rfl⟩ rfl rfl rfl rfl rfl (by kernel_rfl) Try.func7 (by kernel_rfl)
    (of_decide_eq_true (by kernel_rfl)) (by unfold Func.isWrapper; first | (rw [if_pos (by decide +kernel)]; kernel_rfl) | (rw [if_neg (by decide +kernel)]; exact ⟨rfl, rfl⟩))
    (fun os started H enc _ => lifted os started H enc)
end SumsRow
theorem accrueSums_proved : Rows.AccrueSumsSaid := SumsRow.over
end Go.Proofs.Ythddpdfljjhfeaa
end
