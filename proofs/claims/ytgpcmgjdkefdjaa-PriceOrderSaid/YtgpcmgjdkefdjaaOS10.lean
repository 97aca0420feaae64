/-
  Part 10 of what the proof rests on.
-/
import Derived.Test.YtgpcmgjdkefdjaaOS09
import Derived.Test.YtgpcmgjdkefdjaaOS04
import Derived.Test.YtgpcmgjdkefdjaaOS08
import Derived.Test.YtgpcmgjdkefdjaaOS03
section
set_option linter.unusedVariables false
set_option linter.unusedSimpArgs false
set_option maxHeartbeats 8000000
namespace Go.Proofs.Ytgpcmgjdkefdjaa
open Lf Go
attribute [local irreducible] PureOp EffOp Ev RG W Then InBlock Lf.Fin nth App InitE Pick SubE EvL EvD EvP EvR ResL Lf.Lex SubR SubBR RA RAll EvC FinO FinM ResM ResD FinS val pw digs trimL
section
attribute [local irreducible] sgn mag gcdZ quoZ remZ fullZ fullE
theorem qbelow_ok (n : Nat) : ∀ p q r s : Int, okZ p → okZ q → okZ r → okZ s → 0 < q → 0 < s → (q + s).toNat ≤ n → ACalls Try.prog 44 [zB p, zB q, zB r, zB s] (.pv (cI (cmpI (p * s) (r * q)))) := by
  induction n with
  | zero => intro p q r s _ _ _ _ hq hs hn; exfalso; omega
  | succ n ih =>
    intro p q r s op oq or' os hq hs hn
    have d1 := rdivZ_ok p q op oq (by omega)
    have d2 := rdivZ_ok r s or' os (by omega)
    have k1 := rcmpZ_ok (quoZ p q) (quoZ r s) (okZ_quo op (by omega)) (okZ_quo or' (by omega))
    have hu := (rem_rng (x := p) (y := q) (by omega)).1 hq
    have hv := (rem_rng (x := r) (y := s) (by omega)).1 hs
    have ou := okZ_rem (x := p) oq (by omega)
    have ov := okZ_rem (x := r) os (by omega)
    have cu := sgn_cases (remZ p q)
    have cv := sgn_cases (remZ r s)
    have cc := cmp_cases (quoZ p q) (quoZ r s)
    by_cases h1 : quoZ p q = quoZ r s
    · have e1 := cmp_same h1
      have kc : cmpI (quoZ p q) (quoZ r s) = 0 := by omega
      rw [kc] at k1
      by_cases h2 : remZ p q = 0 ∨ remZ r s = 0
      · have e2 := cmp_end hq hs hu.1 hv.1 h2
        rw [e1, e2]
        have hbad : (¬ sgn (remZ p q) = 0 ∧ ¬ sgn (remZ r s) = 0) → False := fun h => by omega
        generalize quoZ p q = x at *
        generalize remZ p q = u at *
        generalize quoZ r s = y at *
        generalize remZ r s = v at *
        refine ACalls.of_W (qs := [cI (sgn u - sgn v)]) [8] 54 Try.func44 (by kernel_rfl) rfl rfl rfl fun G => ?_
        refine W.initA (hw := ?_)
        repeat' (first | ((first | apply U_ | (apply Ug_; exact rfl; exact rfl) | (apply Ugq_; exact rfl; exact rfl)); (first | exact QX.B TYok | exact QX.Ext TYok | exact QCd (d1) | exact QCd (d2) | exact QCd (k1)); exact rfl) | refine SX.Alloc TYok (h := ?_) | refine SX.Store TYok (h := ?_) | refine SX.Box TYok (h := ?_) | refine SC ?_ | (apply S_isnil TYok; exact rfl; exact rfl; exact rfl; exact Ev.auto; intro bn hnil) | refine SG ?_ | (refine W.condA (ht := fun hb => ?_) (hf := fun hb => ?_) <;> (try simp at hb) <;> (try (exfalso; first | exact hbad hb | omega))))
        all_goals exact Fin.ret ResL.auto
      · have i1 := ih s (remZ r s) q (remZ p q) os ov oq ou (by omega) (by omega) (by omega)
        rw [e1, Int.mul_comm (remZ p q), Int.mul_comm (remZ r s)]
        have hbad : (sgn (remZ p q) = 0 ∨ sgn (remZ r s) = 0) → False := fun h => by omega
        generalize cmpI (s * remZ p q) (q * remZ r s) = c at *
        generalize quoZ p q = x at *
        generalize remZ p q = u at *
        generalize quoZ r s = y at *
        generalize remZ r s = v at *
        refine ACalls.of_W (qs := [cI c]) [8] 54 Try.func44 (by kernel_rfl) rfl rfl rfl fun G => ?_
        refine W.initA (hw := ?_)
        repeat' (first | ((first | apply U_ | (apply Ug_; exact rfl; exact rfl) | (apply Ugq_; exact rfl; exact rfl)); (first | exact QX.B TYok | exact QX.Ext TYok | exact QCd (d1) | exact QCd (d2) | exact QCd (k1) | exact QCd (i1)); exact rfl) | refine SX.Alloc TYok (h := ?_) | refine SX.Store TYok (h := ?_) | refine SX.Box TYok (h := ?_) | refine SC ?_ | (apply S_isnil TYok; exact rfl; exact rfl; exact rfl; exact Ev.auto; intro bn hnil) | refine SG ?_ | (refine W.condA (ht := fun hb => ?_) (hf := fun hb => ?_) <;> (try simp at hb) <;> (try (exfalso; first | exact hbad hb | omega))))
        all_goals exact Fin.ret ResL.auto
    · rw [cmp_quo hq hs h1]
      have hc : ¬ cmpI (quoZ p q) (quoZ r s) = 0 := by omega
      generalize cmpI (quoZ p q) (quoZ r s) = c at *
      generalize quoZ p q = x at *
      generalize remZ p q = u at *
      generalize quoZ r s = y at *
      generalize remZ r s = v at *
      refine ACalls.of_W (qs := [cI c]) [8] 54 Try.func44 (by kernel_rfl) rfl rfl rfl fun G => ?_
      refine W.initA (hw := ?_)
      repeat' (first | ((first | apply U_ | (apply Ug_; exact rfl; exact rfl) | (apply Ugq_; exact rfl; exact rfl)); (first | exact QX.B TYok | exact QX.Ext TYok | exact QCd (d1) | exact QCd (d2) | exact QCd (k1)); exact rfl) | refine SX.Alloc TYok (h := ?_) | refine SX.Store TYok (h := ?_) | refine SX.Box TYok (h := ?_) | refine SC ?_ | (apply S_isnil TYok; exact rfl; exact rfl; exact rfl; exact Ev.auto; intro bn hnil) | refine SG ?_ | (refine W.condA (ht := fun hb => ?_) (hf := fun hb => ?_) <;> (try simp at hb) <;> (try (exfalso; omega))))
      all_goals exact Fin.ret ResL.auto
theorem qcmp_ok (a b : Rat) (ha : okF a) (hb : okF b) : ACalls Try.prog 21 [zF a, zF b] (.pv (cI (cmpR a b))) := by
  have r1 := qright_yes a ha
  have r2 := qright_yes b hb
  have b1 := qbelow_ok _ a.num a.den b.num b.den ha.1 ha.2 hb.1 hb.2 (den_pos a) (den_pos b) (Nat.le_refl _)
  unfold cmpR
  generalize cmpI (a.num * b.den) (b.num * a.den) = c at *
  refine ACalls.of_W (qs := [cI c]) [4] 22 Try.func21 (by kernel_rfl) rfl rfl rfl fun G => ?_
  refine W.initA (hw := ?_)
  repeat' (first | ((first | apply U_ | (apply Ug_; exact rfl; exact rfl) | (apply Ugq_; exact rfl; exact rfl)); (first | exact QX.B TYok | exact QCd (r1) | exact QCd (r2) | exact QCd (b1)); exact rfl) | refine SX.Box TYok (h := ?_) | refine SC ?_ | refine SG ?_ | (refine W.condA (ht := fun hb => ?_) (hf := fun hb => ?_) <;> (try simp at hb) <;> (try (exfalso; omega))))
  all_goals exact Fin.ret ResL.auto
theorem qfloor_ok (r : Rat) (h : okF r) : ACalls Try.prog 38 [zF r] (.pv (zB (quoZ r.num r.den))) := by
  have r1 := qright_yes r h
  have d1 := rdivZ_ok r.num r.den h.1 h.2 (den_ne r)
  refine ACalls.of_M TYok (qs := [zB (quoZ r.num r.den)]) [.cell 2 29] 20 Try.func38 (by kernel_rfl) rfl rfl rfl fun G => ?_
  refine W.initA (hw := ?_)
  repeat' (first | ((first | apply U_); (first | exact QX.B TYok | exact QX.Ext TYok | exact QX.Build TYok | exact QCd (r1) | exact QCd (d1)); exact rfl) | refine SX.Alloc TYok (h := ?_) | refine SX.Store TYok (h := ?_) | refine SX.Box TYok (h := ?_) | refine SC ?_ | (refine W.condA (ht := fun hb => ?_) (hf := fun hb => ?_) <;> (try simp at hb) <;> (try (exfalso; omega))))
  all_goals exact FinM.ret ResM.auto
end
section
attribute [local irreducible] sgn mag gcdZ quoZ remZ fullZ fullE
end
section
variable (s s' t t' : Int) (l l' m m' : List Int) (hl : l.length ≤ 9223372036854775807) (hl' : l'.length ≤ 9223372036854775807) (hm : m.length ≤ 9223372036854775807) (hm' : m'.length ≤ 9223372036854775807) (h : ¬ (rightFB s l s' l' = true ∧ rightFB t m t' m' = true))
include hl hl' hm hm' h
theorem fcmp_arg : ACalls Try.prog 41 [fB s l s' l', fB t m t' m'] (.pv (cI 0)) := by
  have h1 := fright_ok s l s' l' hl hl'
  have h2 := fright_ok t m t' m' hm hm'
  have hbad : (rightFB s l s' l' = true ∧ rightFB t m t' m' = true) → False := h
  generalize rightFB s l s' l' = b1 at *
  generalize rightFB t m t' m' = b2 at *
  refine ACalls.of_W (qs := [cI 0]) [4] 78 Try.func41 (by kernel_rfl) rfl rfl rfl fun G => ?_
  refine W.initA (hw := ?_)
  repeat' (first | ((first | apply U_ | (apply Ug_; exact rfl; exact rfl) | (apply Ugq_; exact rfl; exact rfl)); (first | exact QX.B TYok | exact QX.Ext TYok | exact QCd (h1) | exact QCd (h2)); exact rfl) | refine SX.Alloc TYok (h := ?_) | refine SX.Store TYok (h := ?_) | refine SX.Box TYok (h := ?_) | refine SC ?_ | (apply S_isnil TYok; exact rfl; exact rfl; exact rfl; exact Ev.auto; intro bn hnil) | refine SG ?_ | (refine W.drawA (id := 13) (L := [false, false, false, false, false, false, false, false]) mixed rfl ?_) | exact RAll.nil | (refine RAll.cons rfl ?_ ?_) | (refine RA.step (L := [false, false, false, false, false, false, false, false]) (i := 0) (is := [1, 2, 3]) (by kernel_rfl) ?_) | (refine RA.step (L := [false, false, false, true, false, false, false, false]) (i := 0) (is := [1, 2]) (by kernel_rfl) ?_) | (refine RA.step (L := [false, false, true, true, false, false, false, false]) (i := 0) (is := [1]) (by kernel_rfl) ?_) | (refine RA.step (L := [false, true, true, true, false, false, false, false]) (i := 0) (is := []) (by kernel_rfl) ?_) | (refine RA.step (L := [true, true, true, true, false, false, false, false]) (i := 4) (is := []) (by kernel_rfl) ?_) | (refine RA.step (L := [true, true, true, true, true, false, false, false]) (i := 5) (is := []) (by kernel_rfl) ?_) | (refine RA.step (L := [true, true, true, true, true, true, false, false]) (i := 6) (is := []) (by kernel_rfl) ?_) | (refine RA.step (L := [true, true, true, true, true, true, true, false]) (i := 7) (is := []) (by kernel_rfl) ?_) | (refine RA.done (L := [true, true, true, true, true, true, true, true]) (by kernel_rfl) ?_) | (refine RA.step (L := [true, false, true, true, false, false, false, false]) (i := 1) (is := [4]) (by kernel_rfl) ?_) | (refine RA.step (L := [true, false, true, true, true, false, false, false]) (i := 1) (is := []) (by kernel_rfl) ?_) | (refine RA.step (L := [false, true, false, true, false, false, false, false]) (i := 0) (is := [2]) (by kernel_rfl) ?_) | (refine RA.step (L := [true, true, false, true, false, false, false, false]) (i := 2) (is := [4]) (by kernel_rfl) ?_) | (refine RA.step (L := [true, true, false, true, true, false, false, false]) (i := 2) (is := [5]) (by kernel_rfl) ?_) | (refine RA.step (L := [true, true, false, true, true, true, false, false]) (i := 2) (is := []) (by kernel_rfl) ?_) | (refine RA.step (L := [true, false, false, true, false, false, false, false]) (i := 1) (is := [2, 4]) (by kernel_rfl) ?_) | (refine RA.step (L := [true, false, false, true, true, false, false, false]) (i := 1) (is := [2]) (by kernel_rfl) ?_) | (refine RA.step (L := [false, false, true, false, false, false, false, false]) (i := 0) (is := [1, 3]) (by kernel_rfl) ?_) | (refine RA.step (L := [false, true, true, false, false, false, false, false]) (i := 0) (is := [3]) (by kernel_rfl) ?_) | (refine RA.step (L := [true, true, true, false, false, false, false, false]) (i := 3) (is := [4]) (by kernel_rfl) ?_) | (refine RA.step (L := [true, true, true, false, true, false, false, false]) (i := 3) (is := [5]) (by kernel_rfl) ?_) | (refine RA.step (L := [true, true, true, false, true, true, false, false]) (i := 3) (is := [6]) (by kernel_rfl) ?_) | (refine RA.step (L := [true, true, true, false, true, true, true, false]) (i := 3) (is := []) (by kernel_rfl) ?_) | (refine RA.step (L := [true, false, true, false, false, false, false, false]) (i := 1) (is := [3, 4]) (by kernel_rfl) ?_) | (refine RA.step (L := [true, false, true, false, true, false, false, false]) (i := 1) (is := [3]) (by kernel_rfl) ?_) | (refine RA.step (L := [false, true, false, false, false, false, false, false]) (i := 0) (is := [2, 3]) (by kernel_rfl) ?_) | (refine RA.step (L := [true, true, false, false, false, false, false, false]) (i := 2) (is := [3, 4]) (by kernel_rfl) ?_) | (refine RA.step (L := [true, true, false, false, true, false, false, false]) (i := 2) (is := [3, 5]) (by kernel_rfl) ?_) | (refine RA.step (L := [true, true, false, false, true, true, false, false]) (i := 2) (is := [3]) (by kernel_rfl) ?_) | (refine RA.step (L := [true, false, false, false, false, false, false, false]) (i := 1) (is := [2, 3, 4]) (by kernel_rfl) ?_) | (refine RA.step (L := [true, false, false, false, true, false, false, false]) (i := 1) (is := [2, 3]) (by kernel_rfl) ?_) | (refine W.condA (ht := fun hb => ?_) (hf := fun hb => ?_) <;> (try simp at hb) <;> (try (exfalso; first | exact hbad hb | omega))))
  all_goals exact Fin.ret ResL.auto
end
end Go.Proofs.Ytgpcmgjdkefdjaa
end
section
set_option linter.unusedVariables false
set_option linter.unusedSimpArgs false
set_option maxHeartbeats 8000000
namespace Go.Proofs.Ytgpcmgjdkefdjaa
open Lf Go
attribute [local irreducible] PureOp EffOp Ev RG W Then InBlock Lf.Fin nth App InitE Pick SubE EvL EvD EvP EvR ResL Lf.Lex SubR SubBR RA RAll EvC FinO FinM ResM ResD FinS val pw digs trimL
section
theorem divInt_one (n : Int) : Rat.divInt n 1 = (n : Rat) := by
  obtain ⟨h1, h2⟩ := rat_of (x := n) (y := 1) (by decide) (by unfold gcdZ; simp)
  refine Rat.ext ?_ ?_
  · rw [h1]; rfl
  · have : ((n : Rat).den : Int) = 1 := rfl
    omega
theorem okF_int {n : Int} (h : i64B n) : okF (n : Rat) := by
  rw [← divInt_one]
  exact okF_of (i64_ok h) (i64_ok (by unfold i64B; omega)) (by omega)
theorem mul_lt {x y : Int} {m n k : Nat} (hk : m + n = k) (hx : -pw m < x ∧ x < pw m) (hy : -pw n < y ∧ y < pw n) : -pw k < x * y ∧ x * y < pw k := by
  subst hk
  have h1 := pw_pos m
  have h2 := pw_pos n
  have h : (x * y).natAbs < (pw (m + n)).natAbs := by
    rw [pw_add, Int.natAbs_mul, Int.natAbs_mul]
    exact Nat.mul_lt_mul'' (by omega) (by omega)
  have := pw_pos (m + n)
  omega
def bd (r : Rat) (n : Nat) : Prop := (-pw n < r.num ∧ r.num < pw n) ∧ (-pw n < (r.den : Int) ∧ (r.den : Int) < pw n)
theorem bd_ok {r : Rat} {n : Nat} (h : bd r n) (hn : n ≤ 60) : okF r := by
  have := pw_mono hn
  obtain ⟨h1, h2⟩ := h
  exact ⟨okZ.of (by omega), okZ.of (by omega)⟩
theorem bd_mono {r : Rat} {m n : Nat} (h : bd r m) (hn : m ≤ n) : bd r n := by
  have := pw_mono hn
  obtain ⟨h1, h2⟩ := h
  exact ⟨by omega, by omega⟩
theorem bd_div {x y : Int} {n : Nat} (h0 : y ≠ 0) (hx : -pw n < x ∧ x < pw n) (hy : -pw n < y ∧ y < pw n) : bd (Rat.divInt x y) n := by
  obtain ⟨h1, h2⟩ := divInt_le (x := x) h0
  have a := sgn_cases x
  have b := sgn_cases y
  have c := sgn_cases (Rat.divInt x y).num
  have d := sgn_cases ((Rat.divInt x y).den : Int)
  exact ⟨by omega, by omega⟩
theorem add_bd {a b : Rat} {m n k : Nat} (hk : m + n = k) (ha : bd a m) (hB : bd b n) (h60 : k + 1 ≤ 60) : bd (a + b) (k + 1) ∧ addOk a b := by
  have h1 := mul_lt hk ha.1 hB.2
  have h2 := mul_lt (m := n) (n := m) (k := k) (by omega) hB.1 ha.2
  have h3 := mul_lt hk ha.2 hB.2
  have e : pw (k + 1) = 1048576 * pw k := by rw [pw_succ]
  have hm := pw_mono h60
  have hp := pw_pos k
  refine ⟨?_, ⟨⟨okZ.of (by omega), okZ.of (by omega), okZ.of (by omega)⟩, okZ.of (by omega)⟩⟩
  rw [rat_add]
  exact bd_div (mul_ne (den_ne a) (den_ne b)) (by omega) (by omega)
theorem mul_bd {a b : Rat} {m n k : Nat} (hk : m + n = k) (ha : bd a m) (hB : bd b n) (h60 : k ≤ 60) : bd (a * b) k ∧ mulOk a b := by
  have h1 := mul_lt hk ha.1 hB.1
  have h3 := mul_lt hk ha.2 hB.2
  have hm := pw_mono h60
  refine ⟨?_, ⟨okZ.of (by omega), okZ.of (by omega)⟩⟩
  rw [rat_mul]
  exact bd_div (mul_ne (den_ne a) (den_ne b)) h1 h3
theorem bd_of {r : Rat} {n : Nat} (h1 : (digs (mag r.num)).length ≤ n) (h2 : (digs (mag r.den)).length ≤ n) : bd r n := ⟨lt40 h1, lt40 h2⟩
theorem pw4 : pw 4 = 1208925819614629174706176 := by decide +kernel
theorem int_bd {n : Int} (h : -1208925819614629174706176 < n ∧ n < 1208925819614629174706176) : bd (n : Rat) 4 := by
  have e := pw4
  have h1 : (n : Rat).num = n := rfl
  have h2 : ((n : Rat).den : Int) = 1 := rfl
  unfold bd
  rw [h1, h2]
  omega
theorem cmpR_cases (a b : Rat) : (cmpR a b = -1 ∧ a < b) ∨ (cmpR a b = 0 ∧ a = b) ∨ (cmpR a b = 1 ∧ b < a) := by
  unfold cmpR
  rcases cmp_cases (a.num * b.den) (b.num * a.den) with h | h | h
  · exact .inl ⟨h.1, (Rat.lt_iff a b).2 h.2⟩
  · exact .inr (.inl ⟨h.1, Rat.le_antisymm ((Rat.le_iff a b).2 (by omega)) ((Rat.le_iff b a).2 (by omega))⟩)
  · exact .inr (.inr ⟨h.1, (Rat.lt_iff b a).2 h.2⟩)
theorem sgnR_cases (r : Rat) : (sgn r.num = -1 ∧ r < 0) ∨ (sgn r.num = 0 ∧ r = 0) ∨ (sgn r.num = 1 ∧ 0 < r) := by
  have h1 := cmpR_cases r 0
  have c := sgn_cases r.num
  have e : cmpR r 0 = sgn r.num := by
    unfold cmpR
    have k := cmp_cases (r.num * ((0 : Rat).den : Int)) ((0 : Rat).num * r.den)
    rw [show ((0 : Rat).den : Int) = 1 from rfl, show (0 : Rat).num = 0 from rfl, Int.mul_one, Int.zero_mul] at k ⊢
    omega
  rw [e] at h1
  exact h1
theorem cmpR_lt (a b : Rat) : (cmpR a b < 0) ↔ a < b := by
  rcases cmpR_cases a b with h | h | h
  · exact ⟨fun _ => h.2, fun _ => by omega⟩
  · exact ⟨fun _ => by omega, fun k => by have := h.2; grind⟩
  · exact ⟨fun _ => by omega, fun k => by have := h.2; grind⟩
theorem cmpR_le (a b : Rat) : (cmpR a b ≤ 0) ↔ a ≤ b := by
  rcases cmpR_cases a b with h | h | h
  · exact ⟨fun _ => by have := h.2; grind, fun _ => by omega⟩
  · exact ⟨fun _ => by have := h.2; grind, fun k => by omega⟩
  · exact ⟨fun _ => by omega, fun k => by have := h.2; grind⟩
theorem sgn_le (r : Rat) : (sgn r.num ≤ 0) ↔ r ≤ 0 := by
  rcases sgnR_cases r with h | h | h
  · exact ⟨fun _ => by have := h.2; grind, fun _ => by omega⟩
  · exact ⟨fun _ => by have := h.2; grind, fun k => by omega⟩
  · exact ⟨fun _ => by omega, fun k => by have := h.2; grind⟩
theorem addOk_okF {a b : Rat} (h : addOk a b) : okF (a + b) := by
  rw [rat_add]
  exact okF_of h.1.2.2 h.2 (mul_ne (den_ne a) (den_ne b))
end
end Go.Proofs.Ytgpcmgjdkefdjaa
end
section
set_option linter.unusedVariables false
set_option linter.unusedSimpArgs false
set_option maxHeartbeats 8000000
namespace Go.Proofs.Ytgpcmgjdkefdjaa
open Lf Go
attribute [local irreducible] PureOp EffOp Ev RG W Then InBlock Lf.Fin nth App InitE Pick SubE EvL EvD EvP EvR ResL Lf.Lex SubR SubBR RA RAll EvC FinO FinM ResM ResD FinS val pw digs trimL
section
theorem val_drop_le {l : List Int} (d : Dig l) (i : Nat) : 0 ≤ val (l.drop i) ∧ val (l.drop i) ≤ val l := by
  have h1 := val_lo (d.drop i)
  have h2 := val_lo (d.take i)
  have h3 : val l = val (l.take i) + pw (l.take i).length * val (l.drop i) := by rw [← val_app, List.take_append_drop]
  have hp := pw_pos (l.take i).length
  have h4 : 1 * val (l.drop i) ≤ pw (l.take i).length * val (l.drop i) := Int.mul_le_mul_of_nonneg_right (by omega) h1
  omega
theorem Q_mulE {P : Program} {G : Ghost} {n0 : Nat} {env : List (Nat × (Prop × AV))} {bl : List (Nat × Blk)} {p : Prop} {dst : Option Nat} {ty : TypeId} {pos : String} {after : Array Edge} {gd : Option (Nat × Bool)} {xt yt : Nat} {x y : Operand} {m n r : Int} (hr : m * n = r) (hx : Ev (St.mk n0 env bl) p x (.pv (.one (.int .i64 m)))) (hy : Ev (St.mk n0 env bl) p y (.pv (.one (.int .i64 n)))) (hb : -9223372036854775808 ≤ r ∧ r ≤ 9223372036854775807) :
    PureOp P G (St.mk n0 env bl) ⟨dst, .binOp .mul xt x y yt, ty, pos, after, gd⟩ p (.pv (.one (.int .i64 r))) := by
  have h := Q_mul (P := P) (G := G) (dst := dst) (ty := ty) (pos := pos) (after := after) (gd := gd) (xt := xt) (yt := yt) hx hy (by rw [hr]; exact hb)
  rw [hr] at h
  exact h
theorem rint_big (x : Int) (hx : okZ x) (hi : ¬ i64B x) : ACalls Try.prog 37 [zB x] (.tup [cI 0, cB false]) := by
  have h1 := rright_yes hx
  have z1 := rof_ok (-9223372036854775808) (by unfold i64B; omega)
  have z2 := rof_ok 9223372036854775807 (by unfold i64B; omega)
  have k1 := rcmpZ_ok x (-9223372036854775808) hx (i64_ok (by unfold i64B; omega))
  have k2 := rcmpZ_ok x 9223372036854775807 hx (i64_ok (by unfold i64B; omega))
  have hbad : (0 ≤ cmpI x (-9223372036854775808) ∧ cmpI x 9223372036854775807 ≤ 0) → False := fun ⟨q1, q2⟩ => by
    unfold i64B at hi
    unfold cmpI at q1 q2
    split at q1
    · omega
    · split at q2
      · omega
      · split at q2
        · omega
        · omega
  generalize cmpI x (-9223372036854775808) = c1 at *
  generalize cmpI x 9223372036854775807 = c2 at *
  refine ACalls.of_W (qs := [cI 0, cB false]) [2, 3] 41 Try.func37 (by kernel_rfl) rfl rfl rfl fun G => ?_
  refine W.initA (hw := ?_)
  repeat' (first | ((first | apply U_ | (apply Ug_; exact rfl; exact rfl) | (apply Ugq_; exact rfl; exact rfl) | apply Lex.u | (apply Lex.g; exact rfl; exact rfl) | (apply Lex.gq; exact rfl; exact rfl)); (first | exact QX.B TYok | exact QX.Len TYok | exact QX.Idx TYok | exact QCd (h1) | exact QCd (z1) | exact QCd (z2) | exact QCd (k1) | exact QCd (k2)); exact rfl) | refine SX.Box TYok (h := ?_) | refine SC ?_ | refine SG ?_ | (apply W.draw2 (id := 4) [0, 0, 2, 7, 15, 31, 63, 63, 255, 511, 1023] [[1], [4], [11], [10, 12], [13], [14], [1, 15], [15], [16, 17, 15], [18, 15], [15, 19]] 11 [(10, 2), (11, 16), (12, 2048), (13, 5120), (14, 8192), (15, 16384), (16, 32770), (17, 32768), (18, 229376), (19, 294912), (20, 557056)] mixed (by kernel_rfl) rfl rfl) | (apply W.draw2 (id := 10) [0, 1, 0, 4, 0, 16, 0, 112, 240, 508, 1023, 2047] [[5], [29], [1], [31], [1], [33], [6], [34, 35], [36], [32, 37], [30, 38], [39]] 12 [(29, 32), (30, 536870912), (31, 2), (32, 2147483648), (33, 2), (34, 8589934592), (35, 64), (36, 51539607552), (37, 68719476736), (38, 141733920768), (39, 275951648768), (5, 549755813888)] mixed (by kernel_rfl) rfl rfl) | (refine W.condA (ht := fun hb => ?_) (hf := fun hb => ?_) <;> (try simp at hb) <;> (try (exfalso; first | exact hbad hb | omega))))
  all_goals first
    | exact Fin.ret ResL.auto
    | trace_state
theorem rint_fit (x : Int) (hx : okZ x) (hi : i64B x) : ACalls Try.prog 37 [zB x] (.tup [cI x, cB true]) := by
  have h1 := rright_yes hx
  have hl := num_len hx
  have z1 := rof_ok (-9223372036854775808) (by unfold i64B; omega)
  have z2 := rof_ok 9223372036854775807 (by unfold i64B; omega)
  have k1 := rcmpZ_ok x (-9223372036854775808) hx (i64_ok (by unfold i64B; omega))
  have k2 := rcmpZ_ok x 9223372036854775807 hx (i64_ok (by unfold i64B; omega))
  have hbad : (cmpI x (-9223372036854775808) < 0 ∨ 0 < cmpI x 9223372036854775807) → False := fun q => by
    unfold i64B at hi
    unfold cmpI at q
    rcases q with q | q
    · split at q
      · omega
      · split at q <;> omega
    · split at q
      · omega
      · split at q <;> omega
  generalize cmpI x (-9223372036854775808) = c1 at *
  generalize cmpI x 9223372036854775807 = c2 at *
  have dl := (digs_norm (mag x)).dig
  have hv := val_mag x
  have hs := sgn_mag x
  have cx := sgn_cases x
  unfold i64B at hi
  refine ACalls.of_W (qs := [cI x, cB true]) [2, 3] 41 Try.func37 (by kernel_rfl) rfl rfl rfl fun G => ?_
  refine W.initA (hw := ?_)
  repeat' (first | ((first | apply U_ | (apply Ug_; exact rfl; exact rfl) | (apply Ugq_; exact rfl; exact rfl) | apply Lex.u | (apply Lex.g; exact rfl; exact rfl) | (apply Lex.gq; exact rfl; exact rfl)); (first | exact QX.B TYok | exact QX.Len TYok | exact QX.Idx TYok | exact QCd (h1) | exact QCd (z1) | exact QCd (z2) | exact QCd (k1) | exact QCd (k2)); exact rfl) | refine SX.Box TYok (h := ?_) | refine SC ?_ | refine SG ?_ | (apply W.draw2 (id := 4) [0, 0, 2, 7, 15, 31, 63, 63, 255, 511, 1023] [[1], [4], [11], [10, 12], [13], [14], [1, 15], [15], [16, 17, 15], [18, 15], [15, 19]] 11 [(10, 2), (11, 16), (12, 2048), (13, 5120), (14, 8192), (15, 16384), (16, 32770), (17, 32768), (18, 229376), (19, 294912), (20, 557056)] mixed (by kernel_rfl) rfl rfl) | (apply W.draw2 (id := 10) [0, 1, 0, 4, 0, 16, 0, 112, 240, 508, 1023, 2047] [[5], [29], [1], [31], [1], [33], [6], [34, 35], [36], [32, 37], [30, 38], [39]] 12 [(29, 32), (30, 536870912), (31, 2), (32, 2147483648), (33, 2), (34, 8589934592), (35, 64), (36, 51539607552), (37, 68719476736), (38, 141733920768), (39, 275951648768), (5, 549755813888)] mixed (by kernel_rfl) rfl rfl) | (refine W.condA (ht := fun hb => ?_) (hf := fun hb => ?_) <;> (try simp at hb) <;> (try (exfalso; first | exact hbad hb | omega))))
  apply W.loopP (σ := Nat) 41 [1] (fun i => i ≤ (digs (mag x)).length) (fun i => [(6, vI ((i : Int) - 1)), (5, vI (sgn x * val ((digs (mag x)).drop i)))]) (fun _ => [(1, ⟨29, 2, [[.int .i64 (sgn x), .sl ((digs (mag x)).map Lf.encI)]]⟩)]) (fun i => i) ((digs (mag x)).length)
  case hp => repeat (first | exact Pick.nil | apply Pick.cons rfl)
  case h0 =>
    refine ⟨by omega, ?_⟩
    rw [List.drop_length, show sgn x * val [] = 0 by simp [val]]
    exact Le.auto
  case round =>
    rintro i g1
    apply W.norm (by repeat (first | exact App.nil | apply App.cons))
    cases i with
    | succ i =>
      have e1 : ((i + 1 : Nat) : Int) - 1 = i := by omega
      have hi2 : i < (digs (mag x)).length := by omega
      have b1 := val_drop_le dl i
      have b2 := val_drop_le dl (i + 1)
      have e2 := val_drop hi2
      have d2 := dl.nth hi2
      rw [e1]
      have e3 : sgn x * val ((digs (mag x)).drop (i + 1)) * 1048576 + sgn x * nth (digs (mag x)) i = sgn x * val ((digs (mag x)).drop i) := by rw [e2]; grind
      have r1 : -9223372036854775808 ≤ sgn x * val ((digs (mag x)).drop (i + 1)) * 1048576 ∧ sgn x * val ((digs (mag x)).drop (i + 1)) * 1048576 ≤ 9223372036854775807 ∧ -9223372036854775808 ≤ sgn x * val ((digs (mag x)).drop i) ∧ sgn x * val ((digs (mag x)).drop i) ≤ 9223372036854775807 ∧ -9223372036854775808 ≤ sgn x * nth (digs (mag x)) i ∧ sgn x * nth (digs (mag x)) i ≤ 9223372036854775807 := by
        rcases cx with h | h | h <;> rw [h.1] <;> omega
      generalize hA : sgn x * val ((digs (mag x)).drop (i + 1)) = A at *
      generalize hB : sgn x * val ((digs (mag x)).drop i) = B at *
      generalize hC : sgn x * nth (digs (mag x)) i = C at *
      repeat' (first | ((first | apply U_ | (apply Ug_; exact rfl; exact rfl) | (apply Ugq_; exact rfl; exact rfl) | apply Lex.u | (apply Lex.g; exact rfl; exact rfl) | (apply Lex.gq; exact rfl; exact rfl)); (first | (apply Q_mulE hC; exact Ev.auto; exact Ev.auto; omega) | exact QX.B TYok | exact QX.Len TYok | exact QX.Idx TYok); exact rfl) | refine SX.Box TYok (h := ?_) | refine SC ?_ | refine SG ?_ | (apply W.draw2 (id := 4) [0, 0, 2, 7, 15, 31, 63, 63, 255, 511, 1023] [[1], [4], [11], [10, 12], [13], [14], [1, 15], [15], [16, 17, 15], [18, 15], [15, 19]] 11 [(10, 2), (11, 16), (12, 2048), (13, 5120), (14, 8192), (15, 16384), (16, 32770), (17, 32768), (18, 229376), (19, 294912), (20, 557056)] mixed (by kernel_rfl) rfl rfl) | (apply W.draw2 (id := 10) [0, 1, 0, 4, 0, 16, 0, 112, 240, 508, 1023, 2047] [[5], [29], [1], [31], [1], [33], [6], [34, 35], [36], [32, 37], [30, 38], [39]] 12 [(29, 32), (30, 536870912), (31, 2), (32, 2147483648), (33, 2), (34, 8589934592), (35, 64), (36, 51539607552), (37, 68719476736), (38, 141733920768), (39, 275951648768), (5, 549755813888)] mixed (by kernel_rfl) rfl rfl) | (refine W.condA (ht := fun hb => ?_) (hf := fun hb => ?_) <;> (try simp at hb) <;> (try (exfalso; omega))))
      refine ⟨i, by omega, ?_, by omega⟩
      try dsimp only
      rw [hB, ← e3]
      exact Le.auto
    | zero =>
      rw [show sgn x * val ((digs (mag x)).drop 0) = x by rw [List.drop_zero, hv, hs]]
      repeat' (first | ((first | apply U_ | (apply Ug_; exact rfl; exact rfl) | (apply Ugq_; exact rfl; exact rfl) | apply Lex.u | (apply Lex.g; exact rfl; exact rfl) | (apply Lex.gq; exact rfl; exact rfl)); (first | exact QX.B TYok | exact QX.Len TYok | exact QX.Idx TYok); exact rfl) | refine SX.Box TYok (h := ?_) | refine SC ?_ | refine SG ?_ | (apply W.draw2 (id := 4) [0, 0, 2, 7, 15, 31, 63, 63, 255, 511, 1023] [[1], [4], [11], [10, 12], [13], [14], [1, 15], [15], [16, 17, 15], [18, 15], [15, 19]] 11 [(10, 2), (11, 16), (12, 2048), (13, 5120), (14, 8192), (15, 16384), (16, 32770), (17, 32768), (18, 229376), (19, 294912), (20, 557056)] mixed (by kernel_rfl) rfl rfl) | (apply W.draw2 (id := 10) [0, 1, 0, 4, 0, 16, 0, 112, 240, 508, 1023, 2047] [[5], [29], [1], [31], [1], [33], [6], [34, 35], [36], [32, 37], [30, 38], [39]] 12 [(29, 32), (30, 536870912), (31, 2), (32, 2147483648), (33, 2), (34, 8589934592), (35, 64), (36, 51539607552), (37, 68719476736), (38, 141733920768), (39, 275951648768), (5, 549755813888)] mixed (by kernel_rfl) rfl rfl) | (refine W.condA (ht := fun hb => ?_) (hf := fun hb => ?_) <;> (try simp at hb) <;> (try (exfalso; omega))))
      exact Fin.ret ResL.auto
theorem rint_ok (x : Int) (hx : okZ x) : ACalls Try.prog 37 [zB x] (.tup [cI (intV x), cB (decide (i64B x))]) := by
  by_cases hi : i64B x
  · rw [show intV x = x from if_pos hi, decide_eq_true hi]; exact rint_fit x hx hi
  · rw [show intV x = 0 from if_neg hi, decide_eq_false hi]; exact rint_big x hx hi
end
end Go.Proofs.Ytgpcmgjdkefdjaa
end
section
set_option linter.unusedVariables false
set_option linter.unusedSimpArgs false
set_option maxHeartbeats 8000000
namespace Go.Proofs.Ytgpcmgjdkefdjaa
open Lf Go
attribute [local irreducible] PureOp EffOp Ev RG W Then InBlock Lf.Fin nth App InitE Pick SubE EvL EvD EvP EvR ResL Lf.Lex SubR SubBR RA RAll EvC FinO FinM ResM ResD FinS val pw digs trimL
section
structure Fl where
  day : Int
  amt : Int
instance : Inhabited Fl := ⟨⟨0, 0⟩⟩
abbrev encW (f : Fl) : List Cell := [.int .i64 f.day, .int .i64 f.amt]
abbrev aW (f : Fl) : PV := .agg (encW f)
abbrev slW (l : List Fl) : PV := .one (.sl (l.map encW))
def fidx {α : Type} (p : α → Bool) (l : List α) : Int := if l.any p then ((l.findIdx p : Nat) : Int) else -1
theorem any_take {α : Type} [Inhabited α] {l : List α} {p : α → Bool} {k : Nat} (h : k < l.length) : (l.take (k + 1)).any p = ((l.take k).any p || p (nth l k)) := by
  rw [take_nth h]; simp
theorem fidx_nn {α : Type} (p : α → Bool) (l : List α) : decide (fidx p l ≥ 0) = l.any p := by
  unfold fidx
  cases h : l.any p <;> simp
theorem fidx_hit {α : Type} [Inhabited α] {l : List α} {p : α → Bool} {k : Nat} (h : k < l.length) (h1 : (l.take k).any p = false) (h2 : p (nth l k) = true) : fidx p l = k := by
  have ha : l.any p = true := List.any_eq_true.2 ⟨nth l k, nth_mem h, h2⟩
  rw [fidx, if_pos ha]
  have : l.findIdx p = k := by
    rw [List.findIdx_eq h]
    refine ⟨by rw [← nth_eq h]; exact h2, fun j hj => ?_⟩
    have hm : l[j] ∈ l.take k := List.mem_take_iff_getElem.2 ⟨j, by omega, rfl⟩
    cases hp : p l[j] with
    | false => rfl
    | true => rw [List.any_eq_true.2 ⟨_, hm, hp⟩] at h1; cases h1
  rw [this]
theorem fidx_miss {α : Type} {l : List α} {p : α → Bool} (h : l.any p = false) : fidx p l = -1 := by rw [fidx, if_neg (by rw [h]; simp)]
theorem index_ok (l : List Fl) (f : Nat) (caps : List Cell) (p : Fl → Bool) (hl : l.length ≤ 9223372036854775807) (hp : ∀ x ∈ l, ACalls Try.prog f (aW x :: caps.map PV.one) (.pv (cB (p x)))) : ACalls Try.prog 50 [slW l, .one (.fn f caps)] (.pv (cI (fidx p l))) := by
  refine ACalls.of_W (qs := [cI (fidx p l)]) [4] 19 Try.func50 (by kernel_rfl) rfl rfl rfl fun G => ?_
  refine W.initA (hw := ?_)
  repeat' (first | ((first | apply U_); (first | exact QX.B TYok | exact QX.Len TYok | exact QX.Idx TYok); exact rfl) | refine SC ?_ | (refine W.condA (ht := fun hb => ?_) (hf := fun hb => ?_) <;> (try simp at hb) <;> (try (exfalso; omega))))
  apply W.loopP (σ := Nat) 19 [0, 1, 7] (fun k => k ≤ l.length ∧ (l.take k).any p = false) (fun k => [(8, vI k)]) (fun _ => []) (fun k => l.length - k) (0)
  case hp => repeat (first | exact Pick.nil | apply Pick.cons rfl)
  case h0 =>
    refine ⟨by simp, ?_⟩
    exact Le.auto
  case round =>
    rintro k ⟨h1, h2⟩
    apply W.norm (by repeat (first | exact App.nil | apply App.cons))
    by_cases hk : k < l.length
    · repeat' (first | ((first | apply U_); (first | exact QX.B TYok | exact QX.Len TYok | exact QX.Idx TYok | (apply Q_callvA (hp (nth l k) (nth_mem hk)); exact Ev.auto; exact EvA.auto)); exact rfl) | refine SC ?_ | (refine W.condA (ht := fun hb => ?_) (hf := fun hb => ?_) <;> (try simp at hb) <;> (try (exfalso; omega))))
      · rw [fidx_hit ‹_› h2 hb]
        exact Fin.ret ResL.auto
      · refine ⟨k + 1, ⟨by omega, ?_⟩, ?_, ?_⟩
        · rw [any_take ‹_›, h2, hb]; rfl
        · exact Le.auto
        · (try simp only); omega
    · obtain rfl : k = l.length := by omega
      rw [List.take_length] at h2
      repeat' (first | ((first | apply U_); (first | exact QX.B TYok | exact QX.Len TYok | exact QX.Idx TYok); exact rfl) | refine SC ?_ | (refine W.condA (ht := fun hb => ?_) (hf := fun hb => ?_) <;> (try simp at hb) <;> (try (exfalso; omega))))
      rw [fidx_miss h2]
      exact Fin.ret ResL.auto
theorem contains_ok (l : List Fl) (f : Nat) (caps : List Cell) (p : Fl → Bool) (hl : l.length ≤ 9223372036854775807) (hp : ∀ x ∈ l, ACalls Try.prog f (aW x :: caps.map PV.one) (.pv (cB (p x)))) : ACalls Try.prog 27 [slW l, .one (.fn f caps)] (.pv (cB (l.any p))) := by
  refine ACalls.of_W (qs := [cB (l.any p)]) [4] 9 Try.func27 (by kernel_rfl) rfl rfl rfl fun G => ?_
  refine W.initA (hw := ?_)
  repeat' (first | ((first | apply U_); (first | exact QX.B TYok | exact QCl (index_ok l f caps p hl hp)); exact rfl) | refine SC ?_ | (refine W.condA (ht := fun hb => ?_) (hf := fun hb => ?_) <;> (try simp at hb) <;> (try (exfalso; omega))))
  rw [← fidx_nn]
  exact Fin.ret ResL.auto
def okW (f : Fl) : Bool := (decide (0 ≤ f.day) && decide (f.day ≤ 200000)) && (decide (-1000000000000000 ≤ f.amt) && decide (f.amt ≤ 1000000000000000))
theorem okW_iff (f : Fl) : okW f = true ↔ (0 ≤ f.day ∧ f.day ≤ 200000) ∧ (-1000000000000000 ≤ f.amt ∧ f.amt ≤ 1000000000000000) := by
  unfold okW
  simp only [Bool.and_eq_true, decide_eq_true_iff]
def flowsB (l : List Fl) (d : Int) : Bool := ((decide (0 ≤ d) && decide (d ≤ 200000)) && decide ((l.length : Int) ≤ 400)) && l.all okW
theorem isDay_ok (n : Int) : ACalls Try.prog 49 [cI n] (.pv (cB (decide (0 ≤ n) && decide (n ≤ 200000)))) := by
  refine ACalls.of_W (qs := [cB (decide (0 ≤ n) && decide (n ≤ 200000))]) [2] 9 Try.func49 (by kernel_rfl) rfl rfl rfl fun G => ?_
  refine W.initA (hw := ?_)
  repeat' (first | ((first | apply U_ | (apply Ug_; exact rfl; exact rfl) | (apply Ugq_; exact rfl; exact rfl)); (first | exact QX.B TYok); exact rfl) | refine SC ?_ | refine SG ?_ | (refine W.condA (ht := fun hb => ?_) (hf := fun hb => ?_) <;> (try simp at hb) <;> (try (exfalso; omega))))
  all_goals exact Fin.ret ResL.auto
theorem bad_ok (f : Fl) : ACalls Try.prog 48 [aW f] (.pv (cB (!okW f))) := by
  have d1 := isDay_ok f.day
  have e : (!okW f) = ((!(decide (0 ≤ f.day) && decide (f.day ≤ 200000)) || decide (f.amt < -1000000000000000)) || decide (f.amt > 1000000000000000)) := by
    rw [Bool.eq_iff_iff]
    simp only [Bool.not_eq_true', Bool.or_eq_true, decide_eq_true_iff]
    rw [← Bool.not_eq_true, okW_iff, ← Bool.not_eq_true, Bool.and_eq_true, decide_eq_true_iff, decide_eq_true_iff]
    omega
  rw [e]
  generalize (decide (0 ≤ f.day) && decide (f.day ≤ 200000)) = b at *
  refine ACalls.of_W (qs := [cB ((!b || decide (f.amt < -1000000000000000)) || decide (f.amt > 1000000000000000))]) [2] 17 Try.func48 (by kernel_rfl) rfl rfl rfl fun G => ?_
  refine W.initA (hw := ?_)
  repeat' (first | ((first | apply U_ | (apply Ug_; exact rfl; exact rfl) | (apply Ugq_; exact rfl; exact rfl)); (first | exact QX.B TYok | exact QCd (d1)); exact rfl) | refine SX.Box TYok (h := ?_) | refine SC ?_ | refine SG ?_ | (refine W.condA (ht := fun hb => ?_) (hf := fun hb => ?_) <;> (try simp at hb) <;> (try (exfalso; omega))))
  all_goals first
    | exact Fin.ret ResL.auto
    | trace_state
theorem all_any (l : List Fl) : (l.any fun f => !okW f) = !l.all okW := by
  induction l with
  | nil => rfl
  | cons f l ih => rw [List.any_cons, List.all_cons, ih, Bool.not_and]
theorem pright_ok (l : List Fl) (d : Int) (hl : l.length ≤ 9223372036854775807) : ACalls Try.prog 26 [slW l, cI d] (.pv (cB (flowsB l d))) := by
  have d1 := isDay_ok d
  have c1 := contains_ok l 48 [] (fun f => !okW f) hl (fun x _ => bad_ok x)
  rw [all_any] at c1
  have e : flowsB l d = (((decide (0 ≤ d) && decide (d ≤ 200000)) && decide ((l.length : Int) ≤ 400)) && !(!l.all okW)) := by
    unfold flowsB
    rw [Bool.not_not]
  rw [e]
  generalize (decide (0 ≤ d) && decide (d ≤ 200000)) = b at *
  generalize (!l.all okW) = c at *
  refine ACalls.of_W (qs := [cB ((b && decide ((l.length : Int) ≤ 400)) && !c)]) [4] 19 Try.func26 (by kernel_rfl) rfl rfl rfl fun G => ?_
  refine W.initA (hw := ?_)
  repeat' (first | ((first | apply U_ | (apply Ug_; exact rfl; exact rfl) | (apply Ugq_; exact rfl; exact rfl)); (first | exact QX.B TYok | exact QX.Len TYok | exact QCd (d1) | exact QCd (c1) | exact QCl (c1)); exact rfl) | refine SC ?_ | refine SG ?_ | (refine W.condA (ht := fun hb => ?_) (hf := fun hb => ?_) <;> (try simp at hb) <;> (try (exfalso; omega))))
  all_goals first
    | exact Fin.ret ResL.auto
    | trace_state
theorem flows_ok (l : List Fl) (d : Int) (hl : l.length ≤ 9223372036854775807) : ACalls Try.prog 20 [slW l, cI d] (.pv (cB (flowsB l d))) := by
  by_cases h2 : (0 ≤ d ∧ d ≤ 200000) ∧ (l.length : Int) ≤ 400
  case neg =>
    have e : flowsB l d = false := by
      unfold flowsB
      rw [Bool.and_eq_false_iff]
      left
      rw [← Bool.decide_and, ← Bool.decide_and, decide_eq_false h2]
    rw [e]
    refine ACalls.of_W (qs := [cB false]) [4] 53 Try.func20 (by kernel_rfl) rfl rfl rfl fun G => ?_
    refine W.initA (hw := ?_)
    repeat' (first | (exfalso; omega) | ((first | apply U_ | (apply Ug_; exact rfl; exact rfl) | (apply Ugq_; exact rfl; exact rfl)); (first | exact QX.B TYok | exact QX.Len TYok | exact QX.Idx TYok); exact rfl) | refine SC ?_ | refine SG ?_ | (refine W.condA (ht := fun hb => ?_) (hf := fun hb => ?_) <;> (try simp at hb) <;> (try (exfalso; omega))))
    all_goals exact Fin.ret ResL.auto
  have er : flowsB l d = l.all okW := by unfold flowsB; rw [decide_eq_true h2.1.1, decide_eq_true h2.1.2, decide_eq_true h2.2]; rfl
  rw [er]
  refine ACalls.of_W (qs := [cB (l.all okW)]) [4] 53 Try.func20 (by kernel_rfl) rfl rfl rfl fun G => ?_
  refine W.initA (hw := ?_)
  repeat' (first | (exfalso; omega) | ((first | apply U_ | (apply Ug_; exact rfl; exact rfl) | (apply Ugq_; exact rfl; exact rfl)); (first | exact QX.B TYok | exact QX.Len TYok | exact QX.Idx TYok); exact rfl) | refine SC ?_ | refine SG ?_ | (refine W.condA (ht := fun hb => ?_) (hf := fun hb => ?_) <;> (try simp at hb) <;> (try (exfalso; omega))))
  apply W.loopP (σ := Nat) 53 [0] (fun k => k ≤ l.length ∧ l.all okW = (l.drop k).all okW) (fun k => [(5, vI k)]) (fun _ => []) (fun k => l.length - k) (0)
  case hp => repeat (first | exact Pick.nil | apply Pick.cons rfl)
  case h0 =>
    refine ⟨by simp, ?_⟩
    exact Le.auto
  case round =>
    rintro k ⟨g1, g2⟩
    apply W.norm (by repeat (first | exact App.nil | apply App.cons))
    by_cases hk : k < l.length
    · rw [drop_nth hk, List.all_cons] at g2
      have hi := okW_iff (nth l k)
      cases hb2 : okW (nth l k) with
      | false =>
        rw [hb2, Bool.false_and] at g2
        rw [hb2] at hi
        have hn : ¬ ((0 ≤ (nth l k).day ∧ (nth l k).day ≤ 200000) ∧ (-1000000000000000 ≤ (nth l k).amt ∧ (nth l k).amt ≤ 1000000000000000)) := fun h => by have := hi.2 h; cases this
        rw [g2]
        repeat' (first | ((first | apply U_ | (apply Ug_; exact rfl; exact rfl) | (apply Ugq_; exact rfl; exact rfl)); (first | exact QX.B TYok | exact QX.Len TYok | exact QX.Idx TYok); exact rfl) | refine SC ?_ | refine SG ?_ | (refine W.condA (ht := fun hb => ?_) (hf := fun hb => ?_) <;> (try simp at hb) <;> (try (exfalso; omega))))
        all_goals first
          | exact Fin.ret ResL.auto
          | (exfalso; omega)
          | trace_state
      | true =>
        rw [hb2, Bool.true_and] at g2
        rw [hb2] at hi
        obtain ⟨i1, i2⟩ := hi.1 rfl
        repeat' (first | ((first | apply U_ | (apply Ug_; exact rfl; exact rfl) | (apply Ugq_; exact rfl; exact rfl)); (first | exact QX.B TYok | exact QX.Len TYok | exact QX.Idx TYok); exact rfl) | refine SC ?_ | refine SG ?_ | (refine W.condA (ht := fun hb => ?_) (hf := fun hb => ?_) <;> (try simp at hb) <;> (try (exfalso; omega))))
        all_goals first
          | (refine ⟨k + 1, ⟨by omega, g2⟩, ?_, by omega⟩; exact Le.auto)
          | (exfalso; omega)
          | trace_state
    · obtain rfl : k = l.length := by omega
      rw [List.drop_length] at g2
      rw [g2]
      repeat' (first | ((first | apply U_ | (apply Ug_; exact rfl; exact rfl) | (apply Ugq_; exact rfl; exact rfl)); (first | exact QX.B TYok | exact QX.Len TYok | exact QX.Idx TYok); exact rfl) | refine SC ?_ | refine SG ?_ | (refine W.condA (ht := fun hb => ?_) (hf := fun hb => ?_) <;> (try simp at hb) <;> (try (exfalso; omega))))
      exact Fin.ret ResL.auto
theorem flowsB_yes {l : List Fl} {d : Int} (h : flowsB l d = true) : ((0 ≤ d ∧ d ≤ 200000) ∧ l.length ≤ 400) ∧ ∀ f ∈ l, (0 ≤ f.day ∧ f.day ≤ 200000) ∧ (-1000000000000000 ≤ f.amt ∧ f.amt ≤ 1000000000000000) := by
  unfold flowsB at h
  rw [Bool.and_eq_true, Bool.and_eq_true, Bool.and_eq_true, decide_eq_true_iff, decide_eq_true_iff, decide_eq_true_iff, List.all_eq_true] at h
  exact ⟨⟨h.1.1, by omega⟩, fun f hf => (okW_iff f).1 (h.2 f hf)⟩
end
end Go.Proofs.Ytgpcmgjdkefdjaa
end
section
set_option linter.unusedVariables false
set_option linter.unusedSimpArgs false
set_option maxHeartbeats 8000000
namespace Go.Proofs.Ytgpcmgjdkefdjaa
open Lf Go
attribute [local irreducible] PureOp EffOp Ev RG W Then InBlock Lf.Fin nth App InitE Pick SubE EvL EvD EvP EvR ResL Lf.Lex SubR SubBR RA RAll EvC FinO FinM ResM ResD FinS val pw digs trimL
section
structure Fq where
  s : Int
  d : List Int
  s' : Int
  d' : List Int
instance : Inhabited Fq := ⟨⟨0, [], 0, []⟩⟩
instance : Inhabited Rat := ⟨0⟩
abbrev encF (q : Fq) : List Cell := [.int .i64 q.s, .sl (q.d.map Lf.encI), .int .i64 q.s', .sl (q.d'.map Lf.encI)]
abbrev encQ (r : Rat) : List Cell := [.int .i64 (sgn r.num), .sl ((digs (mag r.num)).map Lf.encI), .int .i64 (sgn r.den), .sl ((digs (mag r.den)).map Lf.encI)]
abbrev fqV (q : Fq) : PV := fB q.s q.d q.s' q.d'
abbrev slF (l : List Fq) : PV := .one (.sl (l.map encF))
abbrev slQ (l : List Rat) : PV := .one (.sl (l.map encQ))
def fqOf (r : Rat) : Fq := ⟨sgn r.num, digs (mag r.num), sgn r.den, digs (mag r.den)⟩
theorem slF_of (L : List Rat) : (L.map fqOf).map encF = L.map encQ := by rw [List.map_map]; rfl
def Fq.right (q : Fq) : Bool := rightFB q.s q.d q.s' q.d'
def FqOk (q : Fq) : Prop := q.d.length ≤ 9223372036854775807 ∧ q.d'.length ≤ 9223372036854775807
theorem Fq.rat {q : Fq} (h : q.right = true) : ∃ r : Rat, okF r ∧ q = fqOf r := by
  obtain ⟨r, h1, h2, h3, h4, h5⟩ := frac_of h
  refine ⟨r, h1, ?_⟩
  cases q
  simp only at h2 h3 h4 h5
  rw [h2, h3, h4, h5]; rfl
/-- the number that a right fraction stands for -/
def Fq.val (q : Fq) : Rat := Rat.divInt (q.s * Lf.val q.d) (Lf.val q.d')
theorem fqOf_val {r : Rat} (h : okF r) : (fqOf r).val = r := by
  unfold Fq.val fqOf
  have hp := den_pos r
  have c := sgn_cases r.den
  rw [val_mag, val_mag, sgn_mag, show mag r.den = r.den by omega, Rat.num_divInt_den]
theorem Fq.of_val {q : Fq} (h : q.right = true) : okF q.val ∧ q = fqOf q.val := by
  obtain ⟨r, h1, rfl⟩ := Fq.rat h
  rw [fqOf_val h1]
  exact ⟨h1, rfl⟩
/-- what stands ahead of a factor -/
def prv (L : List Fq) (k : Nat) : Rat := if k = 0 then 1 else (nth L (k - 1)).val
theorem prv_succ (L : List Fq) (k : Nat) : prv L (k + 1) = (nth L k).val := by
  unfold prv
  rw [if_neg (by omega), show k + 1 - 1 = k by omega]
def chk (L : List Fq) (k : Nat) : Prop := (nth L k).right = true ∧ 0 < (nth L k).val ∧ (nth L k).val ≤ prv L k
def FOk (L : List Fq) : Prop := (∀ k, k < L.length → chk L k) ∧ 1 ≤ L.length ∧ L.length ≤ 60
theorem prv_ok {L : List Fq} {k : Nat} (hk : k ≤ L.length) (h : ∀ j, j < k → chk L j) : okF (prv L k) ∧ prv L k ≤ 1 := by
  induction k with
  | zero => exact ⟨okF_int (n := 1) (by unfold i64B; omega), Rat.le_refl⟩
  | succ k ih =>
    obtain ⟨h1, h2⟩ := ih (by omega) (fun j hj => h j (by omega))
    obtain ⟨c1, c2, c3⟩ := h k (by omega)
    rw [prv_succ]
    exact ⟨(Fq.of_val c1).1, Rat.le_trans c3 h2⟩
theorem FOk_iff {L : List Fq} (h : ∀ k, k < L.length → chk L k) : FOk L ↔ (1 ≤ L.length ∧ L.length ≤ 60) := ⟨fun q => q.2, fun q => ⟨h, q⟩⟩
attribute [local irreducible] sgn mag gcdZ quoZ remZ fullZ fullE
theorem whole_ok (n : Int) (h : i64B n) : ACalls Try.prog 30 [cI n] (.pv (zF (n : Rat))) := by
  have n1 := Of_ok n 1 h (by unfold i64B; omega) (by omega)
  rw [divInt_one] at n1
  generalize (n : Rat) = r at *
  refine ACalls.of_M TYok (qs := [zF r]) [.cell 2 31] 11 Try.func30 (by kernel_rfl) rfl rfl rfl fun G => ?_
  refine W.initA (hw := ?_)
  repeat' (first | ((first | apply U_); (first | exact QX.B TYok | exact QX.Ext TYok | exact QCd (n1)); exact rfl) | refine SX.Alloc TYok (h := ?_) | refine SX.Store TYok (h := ?_) | refine SC ?_ | (refine W.condA (ht := fun hb => ?_) (hf := fun hb => ?_) <;> (try simp at hb) <;> (try (exfalso; omega))))
  all_goals exact FinM.ret ResM.auto
theorem qOf_ok (n m : Int) (h : i64B n) (hm : i64B m) (h0 : m ≠ 0) : ACalls Try.prog 34 [cI n, cI m] (.pv (zF (Rat.divInt n m))) := by
  have n1 := qof_ok n m h hm h0
  generalize Rat.divInt n m = r at *
  refine ACalls.of_M TYok (qs := [zF r]) [.cell 4 31] 14 Try.func34 (by kernel_rfl) rfl rfl rfl fun G => ?_
  refine W.initA (hw := ?_)
  repeat' (first | ((first | apply U_); (first | exact QX.B TYok | exact QX.Ext TYok | exact QCd (n1)); exact rfl) | refine SX.Alloc TYok (h := ?_) | refine SX.Store TYok (h := ?_) | refine SC ?_ | (refine W.condA (ht := fun hb => ?_) (hf := fun hb => ?_) <;> (try simp at hb) <;> (try (exfalso; omega))))
  all_goals exact FinM.ret ResM.auto
theorem qwhole_ok (n : Int) (h : i64B n) : ACalls Try.prog 34 [cI n, cI 1] (.pv (zF (n : Rat))) := by
  rw [← divInt_one]
  exact qOf_ok n 1 h (by unfold i64B; omega) (by omega)
theorem fcmp_any (q : Fq) (hq : FqOk q) (b : Rat) (hb : okF b) : ∃ c, ACalls Try.prog 41 [fqV q, zF b] (.pv (cI c)) := by
  have lb := num_len hb.1
  have lb' := num_len hb.2
  by_cases h : q.right = true
  · obtain ⟨a, oa, rfl⟩ := Fq.rat h
    exact ⟨_, fcmp_ok a b oa hb⟩
  · exact ⟨0, fcmp_arg q.s q.s' _ _ q.d q.d' _ _ hq.1 hq.2 (by omega) (by omega) (fun k => h k.1)⟩
theorem rat1 : ((1 : Int) : Rat) = 1 := rfl
theorem pfac_ok (L : List Fq) (hL : L.length ≤ 9223372036854775807) (hq : ∀ q ∈ L, FqOk q) (b : Bool) (hbb : b = true ↔ FOk L) : ACalls Try.prog 16 [slF L] (.pv (cB b)) := by
  have w1 := whole_ok 1 (by unfold i64B; omega)
  rw [rat1] at w1
  refine ACalls.of_W (qs := [cB b]) [2] 38 Try.func16 (by kernel_rfl) rfl rfl rfl fun G => ?_
  refine W.initA (hw := ?_)
  repeat' (first | ((first | apply U_ | (apply Ug_; exact rfl; exact rfl) | (apply Ugq_; exact rfl; exact rfl)); (first | exact QX.B TYok | exact QX.Len TYok | exact QX.Idx TYok | exact QCd (w1)); exact rfl) | refine SX.Alloc TYok (h := ?_) | refine SX.Store TYok (h := ?_) | refine SC ?_ | refine SG ?_ | apply LexS.nil | (apply LexS.f; exact rfl; (first | (apply FreshV.alloc TYok; exact rfl; exact rfl; exact rfl; exact rfl) | (apply FreshV.lit TYok; (repeat (first | exact EvR.nil | apply EvR.cons Ev.auto)); exact rfl; exact rfl; exact rfl; exact rfl; exact rfl; exact rfl; exact rfl; exact rfl; exact rfl) | (apply FreshV.box; exact Ev.auto; exact rfl; exact rfl; exact rfl)); exact rfl; exact rfl; exact rfl) | (apply LexS.s; exact rfl; exact rfl; (apply StoreV.mk TYok; exact Ev.auto; exact Ev.auto; exact rfl; exact rfl; exact rfl; exact rfl; exact rfl)) | ((first | apply LexS.u | (apply LexS.g; exact rfl; exact rfl) | (apply LexS.gq; exact rfl; exact rfl)); (repeat (first | (apply NB.cons; exact rfl) | exact NB.nil rfl)); (first | exact QX.B TYok | exact QX.Len TYok | exact QX.Idx TYok | exact QCd (w1)); exact rfl; exact rfl; exact rfl) | (refine W.condA (ht := fun hb => ?_) (hf := fun hb => ?_) <;> (try simp at hb) <;> (try (exfalso; omega))))
  apply W.loopP (σ := Nat) 38 [0, 3, 7, 8] (fun k => k ≤ L.length ∧ ∀ j, j < k → chk L j) (fun k => [(9, vI k)]) (fun k => [(3, ⟨31, 4, [encQ (prv L k)]⟩)]) (fun k => L.length - k) (0)
  case hp => repeat (first | exact Pick.nil | apply Pick.cons rfl)
  case h0 =>
    refine ⟨⟨by omega, fun j hj => by omega⟩, ?_⟩
    rw [show prv L 0 = 1 from rfl]
    exact Le.auto
  case round =>
    rintro k ⟨g1, g2⟩
    apply W.norm (by repeat (first | exact App.nil | apply App.cons))
    by_cases hk : k < L.length
    · obtain ⟨op, p1⟩ := prv_ok g1 g2
      have hm := nth_mem hk
      have hqk := hq _ hm
      by_cases hr : (nth L k).right = true
      · obtain ⟨ov, ev⟩ := Fq.of_val hr
        have r1 := fright_ok (nth L k).s (nth L k).d (nth L k).s' (nth L k).d' hqk.1 hqk.2
        rw [show rightFB (nth L k).s (nth L k).d (nth L k).s' (nth L k).d' = true from hr] at r1
        have c1 := fcmp_ok (nth L k).val (prv L k) ov op
        rw [show zF (nth L k).val = fqV (nth L k) from (congrArg fqV ev).symm] at c1
        have hsg : (nth L k).s = sgn (nth L k).val.num := congrArg Fq.s ev
        have z1 := sgn_le (nth L k).val
        have z2 := cmpR_le (nth L k).val (prv L k)
        rw [← hsg] at z1
        have hps := prv_succ L k
        by_cases hc : chk L k
        · obtain ⟨_, c2, c3⟩ := hc
          have y1 : ¬ (nth L k).s ≤ 0 := fun q => by have := z1.1 q; grind
          have y2 : ¬ 0 < cmpR (nth L k).val (prv L k) := fun q => by have := z2.2 c3; omega
          generalize cmpR (nth L k).val (prv L k) = C at *
          have eL : encF (nth L k) = encQ (prv L (k + 1)) := by
            rw [hps]
            conv => lhs; rw [ev]
            rfl
          repeat' (first | ((first | apply U_ | (apply Ug_; exact rfl; exact rfl) | (apply Ugq_; exact rfl; exact rfl)); (first | exact QX.B TYok | exact QX.Len TYok | exact QX.Idx TYok | exact QCd (r1) | exact QCd (c1)); exact rfl) | refine SX.Alloc TYok (h := ?_) | refine SX.Store TYok (h := ?_) | refine SC ?_ | refine SG ?_ | apply LexS.nil | (apply LexS.f; exact rfl; (first | (apply FreshV.alloc TYok; exact rfl; exact rfl; exact rfl; exact rfl) | (apply FreshV.lit TYok; (repeat (first | exact EvR.nil | apply EvR.cons Ev.auto)); exact rfl; exact rfl; exact rfl; exact rfl; exact rfl; exact rfl; exact rfl; exact rfl; exact rfl) | (apply FreshV.box; exact Ev.auto; exact rfl; exact rfl; exact rfl)); exact rfl; exact rfl; exact rfl) | (apply LexS.s; exact rfl; exact rfl; (apply StoreV.mk TYok; exact Ev.auto; exact Ev.auto; exact rfl; exact rfl; exact rfl; exact rfl; exact rfl)) | ((first | apply LexS.u | (apply LexS.g; exact rfl; exact rfl) | (apply LexS.gq; exact rfl; exact rfl)); (repeat (first | (apply NB.cons; exact rfl) | exact NB.nil rfl)); (first | exact QX.B TYok | exact QX.Len TYok | exact QX.Idx TYok | exact QCd (r1) | exact QCd (c1)); exact rfl; exact rfl; exact rfl) | (refine W.condA (ht := fun hb => ?_) (hf := fun hb => ?_) <;> (try simp at hb) <;> (try (exfalso; omega))))
          all_goals first
            | (refine ⟨k + 1, ⟨by omega, fun j hj => ?_⟩, ?_, by omega⟩
               · rcases Nat.lt_or_ge j k with q | q
                 · exact g2 j q
                 · obtain rfl : j = k := by omega
                   exact ⟨hr, c2, c3⟩
               · (try dsimp only)
                 rw [← eL]
                 exact Le.auto)
            | (exfalso; omega)
            | trace_state
        · have hbf : b = false := by
            rw [Bool.eq_false_iff]
            exact fun q => hc ((hbb.1 q).1 k hk)
          subst hbf
          have y : ¬ (nth L k).s ≤ 0 → 0 < cmpR (nth L k).val (prv L k) := fun q => by
            rcases Int.lt_or_le 0 (cmpR (nth L k).val (prv L k)) with w | w
            · exact w
            · exact absurd ⟨hr, by have := fun t => q (z1.2 t); grind, z2.1 w⟩ hc
          generalize cmpR (nth L k).val (prv L k) = C at *
          repeat' (first | ((first | apply U_ | (apply Ug_; exact rfl; exact rfl) | (apply Ugq_; exact rfl; exact rfl)); (first | exact QX.B TYok | exact QX.Len TYok | exact QX.Idx TYok | exact QCd (r1) | exact QCd (c1)); exact rfl) | refine SX.Alloc TYok (h := ?_) | refine SX.Store TYok (h := ?_) | refine SC ?_ | refine SG ?_ | apply LexS.nil | (apply LexS.f; exact rfl; (first | (apply FreshV.alloc TYok; exact rfl; exact rfl; exact rfl; exact rfl) | (apply FreshV.lit TYok; (repeat (first | exact EvR.nil | apply EvR.cons Ev.auto)); exact rfl; exact rfl; exact rfl; exact rfl; exact rfl; exact rfl; exact rfl; exact rfl; exact rfl) | (apply FreshV.box; exact Ev.auto; exact rfl; exact rfl; exact rfl)); exact rfl; exact rfl; exact rfl) | (apply LexS.s; exact rfl; exact rfl; (apply StoreV.mk TYok; exact Ev.auto; exact Ev.auto; exact rfl; exact rfl; exact rfl; exact rfl; exact rfl)) | ((first | apply LexS.u | (apply LexS.g; exact rfl; exact rfl) | (apply LexS.gq; exact rfl; exact rfl)); (repeat (first | (apply NB.cons; exact rfl) | exact NB.nil rfl)); (first | exact QX.B TYok | exact QX.Len TYok | exact QX.Idx TYok | exact QCd (r1) | exact QCd (c1)); exact rfl; exact rfl; exact rfl) | (refine W.condA (ht := fun hb => ?_) (hf := fun hb => ?_) <;> (try simp at hb) <;> (try (exfalso; omega))))
          all_goals first
            | exact Fin.ret ResL.auto
            | (exfalso; omega)
            | trace_state
      · have hbf : b = false := by
          rw [Bool.eq_false_iff]
          exact fun q => hr ((hbb.1 q).1 k hk).1
        subst hbf
        have r1 := fright_ok (nth L k).s (nth L k).d (nth L k).s' (nth L k).d' hqk.1 hqk.2
        rw [show rightFB (nth L k).s (nth L k).d (nth L k).s' (nth L k).d' = false from by rw [Bool.eq_false_iff]; exact hr] at r1
        obtain ⟨c, c1⟩ := fcmp_any (nth L k) hqk (prv L k) op
        repeat' (first | ((first | apply U_ | (apply Ug_; exact rfl; exact rfl) | (apply Ugq_; exact rfl; exact rfl)); (first | exact QX.B TYok | exact QX.Len TYok | exact QX.Idx TYok | exact QCd (r1) | exact QCd (c1)); exact rfl) | refine SX.Alloc TYok (h := ?_) | refine SX.Store TYok (h := ?_) | refine SC ?_ | refine SG ?_ | apply LexS.nil | (apply LexS.f; exact rfl; (first | (apply FreshV.alloc TYok; exact rfl; exact rfl; exact rfl; exact rfl) | (apply FreshV.lit TYok; (repeat (first | exact EvR.nil | apply EvR.cons Ev.auto)); exact rfl; exact rfl; exact rfl; exact rfl; exact rfl; exact rfl; exact rfl; exact rfl; exact rfl) | (apply FreshV.box; exact Ev.auto; exact rfl; exact rfl; exact rfl)); exact rfl; exact rfl; exact rfl) | (apply LexS.s; exact rfl; exact rfl; (apply StoreV.mk TYok; exact Ev.auto; exact Ev.auto; exact rfl; exact rfl; exact rfl; exact rfl; exact rfl)) | ((first | apply LexS.u | (apply LexS.g; exact rfl; exact rfl) | (apply LexS.gq; exact rfl; exact rfl)); (repeat (first | (apply NB.cons; exact rfl) | exact NB.nil rfl)); (first | exact QX.B TYok | exact QX.Len TYok | exact QX.Idx TYok | exact QCd (r1) | exact QCd (c1)); exact rfl; exact rfl; exact rfl) | (refine W.condA (ht := fun hb => ?_) (hf := fun hb => ?_) <;> (try simp at hb) <;> (try (exfalso; omega))))
        all_goals first
          | exact Fin.ret ResL.auto
          | (exfalso; omega)
          | trace_state
    · obtain rfl : k = L.length := by omega
      have hb2 := FOk_iff g2
      rw [hb2] at hbb
      repeat' (first | ((first | apply U_ | (apply Ug_; exact rfl; exact rfl) | (apply Ugq_; exact rfl; exact rfl)); (first | exact QX.B TYok | exact QX.Len TYok | exact QX.Idx TYok); exact rfl) | refine SX.Alloc TYok (h := ?_) | refine SX.Store TYok (h := ?_) | refine SC ?_ | refine SG ?_ | apply LexS.nil | (apply LexS.f; exact rfl; (first | (apply FreshV.alloc TYok; exact rfl; exact rfl; exact rfl; exact rfl) | (apply FreshV.lit TYok; (repeat (first | exact EvR.nil | apply EvR.cons Ev.auto)); exact rfl; exact rfl; exact rfl; exact rfl; exact rfl; exact rfl; exact rfl; exact rfl; exact rfl) | (apply FreshV.box; exact Ev.auto; exact rfl; exact rfl; exact rfl)); exact rfl; exact rfl; exact rfl) | (apply LexS.s; exact rfl; exact rfl; (apply StoreV.mk TYok; exact Ev.auto; exact Ev.auto; exact rfl; exact rfl; exact rfl; exact rfl; exact rfl)) | ((first | apply LexS.u | (apply LexS.g; exact rfl; exact rfl) | (apply LexS.gq; exact rfl; exact rfl)); (repeat (first | (apply NB.cons; exact rfl) | exact NB.nil rfl)); (first | exact QX.B TYok | exact QX.Len TYok | exact QX.Idx TYok); exact rfl; exact rfl; exact rfl) | (refine W.condA (ht := fun hb => ?_) (hf := fun hb => ?_) <;> (try simp at hb) <;> (try (exfalso; omega))))
      all_goals first
        | (refine Fin.ret (ResL.cons rfl rfl (PSub.of_eq ?_) ResL.nil)
           refine congrArg (fun b => PV.one (Cell.bool b)) ?_
           rw [Bool.eq_iff_iff, hbb]
           simp only [Bool.and_eq_true, decide_eq_true_iff]
           omega)
        | trace_state
theorem rfac_ok (L : List Fq) (hL : L.length ≤ 9223372036854775807) (hq : ∀ q ∈ L, FqOk q) (b : Bool) (hbb : b = true ↔ FOk L) : ACalls Try.prog 17 [slF L] (.pv (cB b)) := by
  by_cases hlen : 1 ≤ (L.length : Int) ∧ (L.length : Int) ≤ 60
  case neg =>
    have e : b = false := by
      rw [Bool.eq_false_iff]
      exact fun q => hlen (by have := (hbb.1 q).2; omega)
    subst e
    refine ACalls.of_W (qs := [cB false]) [2] 56 Try.func17 (by kernel_rfl) rfl rfl rfl fun G => ?_
    refine W.initA (hw := ?_)
    repeat' (first | ((first | apply U_ | (apply Ug_; exact rfl; exact rfl) | (apply Ugq_; exact rfl; exact rfl) | apply Lex.u | (apply Lex.g; exact rfl; exact rfl) | (apply Lex.gq; exact rfl; exact rfl)); (first | exact QX.B TYok | exact QX.Num TYok | exact QX.Len TYok | exact QX.Idx TYok); exact rfl) | refine SC ?_ | refine SG ?_ | (apply W.draw2 (id := 8) [0, 0, 3, 7, 15, 31, 63, 127, 255, 255, 1023, 2047, 255, 8191, 16383, 32767] [[0], [3], [24, 25], [26], [27], [28], [29], [30], [0, 31], [3, 31], [32, 33, 31], [34, 31], [31], [35, 36, 31], [37, 31], [31, 38]] 16 [(24, 1), (25, 8), (26, 50331648), (27, 67108864), (28, 134217728), (29, 268435456), (30, 536870912), (31, 1073741824), (32, 2147483649), (33, 2147483656), (34, 15032385536), (35, 19327352832), (36, 2147483648), (37, 105226698752), (38, 139586437120), (39, 277025390592)] mixed (by kernel_rfl) rfl rfl) | (apply W.draw2 (id := 10) [0, 1, 3, 7, 7, 23, 55, 127, 255, 7, 7, 1543, 3591, 8191, 16383, 32767] [[3], [40], [41], [0, 42], [3, 42], [44, 42], [45, 42], [43, 46, 42], [47, 42], [0, 42], [3, 42], [49, 50, 42], [51, 42], [48, 52, 42], [53, 42], [42, 54]] 16 [(40, 8), (41, 1099511627776), (42, 2199023255552), (43, 4398046511105), (44, 4398046511112), (45, 21990232555520), (46, 39582418599936), (47, 83562883710976), (48, 145135534866432), (49, 4398046511105), (50, 4398046511112), (51, 1693247906775040), (52, 2256197860196352), (53, 4789472650592256), (54, 9011597301252096), (55, 18018796555993088)] mixed (by kernel_rfl) rfl rfl) | (refine W.condA (ht := fun hb => ?_) (hf := fun hb => ?_) <;> (try simp at hb) <;> (try (exfalso; first | exact hlen hb | omega))))
    all_goals first
      | exact Fin.ret ResL.auto
      | (exfalso; omega)
      | trace_state
  have w1 := qwhole_ok 1 (by unfold i64B; omega)
  rw [rat1] at w1
  have o1 : okF 1 := okF_int (n := 1) (by unfold i64B; omega)
  refine ACalls.of_W (qs := [cB b]) [2] 56 Try.func17 (by kernel_rfl) rfl rfl rfl fun G => ?_
  refine W.initA (hw := ?_)
  repeat' (first | (exfalso; omega) | ((first | apply U_ | (apply Ug_; exact rfl; exact rfl) | (apply Ugq_; exact rfl; exact rfl) | apply Lex.u | (apply Lex.g; exact rfl; exact rfl) | (apply Lex.gq; exact rfl; exact rfl)); (first | exact QX.B TYok | exact QX.Num TYok | exact QX.Len TYok | exact QX.Idx TYok); exact rfl) | refine SC ?_ | refine SG ?_ | (apply W.draw2 (id := 8) [0, 0, 3, 7, 15, 31, 63, 127, 255, 255, 1023, 2047, 255, 8191, 16383, 32767] [[0], [3], [24, 25], [26], [27], [28], [29], [30], [0, 31], [3, 31], [32, 33, 31], [34, 31], [31], [35, 36, 31], [37, 31], [31, 38]] 16 [(24, 1), (25, 8), (26, 50331648), (27, 67108864), (28, 134217728), (29, 268435456), (30, 536870912), (31, 1073741824), (32, 2147483649), (33, 2147483656), (34, 15032385536), (35, 19327352832), (36, 2147483648), (37, 105226698752), (38, 139586437120), (39, 277025390592)] mixed (by kernel_rfl) rfl rfl) | (apply W.draw2 (id := 10) [0, 1, 3, 7, 7, 23, 55, 127, 255, 7, 7, 1543, 3591, 8191, 16383, 32767] [[3], [40], [41], [0, 42], [3, 42], [44, 42], [45, 42], [43, 46, 42], [47, 42], [0, 42], [3, 42], [49, 50, 42], [51, 42], [48, 52, 42], [53, 42], [42, 54]] 16 [(40, 8), (41, 1099511627776), (42, 2199023255552), (43, 4398046511105), (44, 4398046511112), (45, 21990232555520), (46, 39582418599936), (47, 83562883710976), (48, 145135534866432), (49, 4398046511105), (50, 4398046511112), (51, 1693247906775040), (52, 2256197860196352), (53, 4789472650592256), (54, 9011597301252096), (55, 18018796555993088)] mixed (by kernel_rfl) rfl rfl) | (refine W.condA (ht := fun hb => ?_) (hf := fun hb => ?_) <;> (try simp at hb) <;> (try (exfalso; omega))))
  apply W.loopP (σ := Nat) 56 [0] (fun k => k ≤ L.length ∧ ∀ j, j < k → chk L j) (fun k => [(3, vI k)]) (fun _ => []) (fun k => L.length - k) (0)
  case hp => repeat (first | exact Pick.nil | apply Pick.cons rfl)
  case h0 =>
    refine ⟨⟨by omega, fun j hj => by omega⟩, ?_⟩
    exact Le.auto
  case round =>
    rintro k ⟨g1, g2⟩
    apply W.norm (by repeat (first | exact App.nil | apply App.cons))
    by_cases hk : k < L.length
    case neg =>
      obtain rfl : k = L.length := by omega
      obtain rfl : b = true := hbb.2 ((FOk_iff g2).2 (by omega))
      repeat' (first | ((first | apply U_ | (apply Ug_; exact rfl; exact rfl) | (apply Ugq_; exact rfl; exact rfl) | apply Lex.u | (apply Lex.g; exact rfl; exact rfl) | (apply Lex.gq; exact rfl; exact rfl)); (first | exact QX.B TYok | exact QX.Num TYok | exact QX.Len TYok | exact QX.Idx TYok); exact rfl) | refine SC ?_ | refine SG ?_ | (apply W.draw2 (id := 8) [0, 0, 3, 7, 15, 31, 63, 127, 255, 255, 1023, 2047, 255, 8191, 16383, 32767] [[0], [3], [24, 25], [26], [27], [28], [29], [30], [0, 31], [3, 31], [32, 33, 31], [34, 31], [31], [35, 36, 31], [37, 31], [31, 38]] 16 [(24, 1), (25, 8), (26, 50331648), (27, 67108864), (28, 134217728), (29, 268435456), (30, 536870912), (31, 1073741824), (32, 2147483649), (33, 2147483656), (34, 15032385536), (35, 19327352832), (36, 2147483648), (37, 105226698752), (38, 139586437120), (39, 277025390592)] mixed (by kernel_rfl) rfl rfl) | (apply W.draw2 (id := 10) [0, 1, 3, 7, 7, 23, 55, 127, 255, 7, 7, 1543, 3591, 8191, 16383, 32767] [[3], [40], [41], [0, 42], [3, 42], [44, 42], [45, 42], [43, 46, 42], [47, 42], [0, 42], [3, 42], [49, 50, 42], [51, 42], [48, 52, 42], [53, 42], [42, 54]] 16 [(40, 8), (41, 1099511627776), (42, 2199023255552), (43, 4398046511105), (44, 4398046511112), (45, 21990232555520), (46, 39582418599936), (47, 83562883710976), (48, 145135534866432), (49, 4398046511105), (50, 4398046511112), (51, 1693247906775040), (52, 2256197860196352), (53, 4789472650592256), (54, 9011597301252096), (55, 18018796555993088)] mixed (by kernel_rfl) rfl rfl) | (refine W.condA (ht := fun hb => ?_) (hf := fun hb => ?_) <;> (try simp at hb) <;> (try (exfalso; omega))))
      all_goals first
        | exact Fin.ret ResL.auto
        | trace_state
    have hLn : L = [] → False := fun e => by rw [e] at hk; simp at hk
    obtain ⟨op, p1⟩ := prv_ok g1 g2
    have hm := nth_mem hk
    have hqk := hq _ hm
    have r1 := qright_ok (nth L k).s (nth L k).d (nth L k).s' (nth L k).d' hqk.1 hqk.2
    by_cases hr : (nth L k).right = true
    case neg =>
      have hbf : b = false := by
        rw [Bool.eq_false_iff]
        exact fun q => hr ((hbb.1 q).1 k hk).1
      subst hbf
      rw [show rightFB (nth L k).s (nth L k).d (nth L k).s' (nth L k).d' = false from by rw [Bool.eq_false_iff]; exact hr] at r1
      repeat' (first | ((first | apply U_ | (apply Ug_; exact rfl; exact rfl) | (apply Ugq_; exact rfl; exact rfl) | apply Lex.u | (apply Lex.g; exact rfl; exact rfl) | (apply Lex.gq; exact rfl; exact rfl)); (first | exact QX.B TYok | exact QX.Num TYok | exact QX.Len TYok | exact QX.Idx TYok | exact QCd (r1)); exact rfl) | refine SC ?_ | refine SG ?_ | (apply W.draw2 (id := 8) [0, 0, 3, 7, 15, 31, 63, 127, 255, 255, 1023, 2047, 255, 8191, 16383, 32767] [[0], [3], [24, 25], [26], [27], [28], [29], [30], [0, 31], [3, 31], [32, 33, 31], [34, 31], [31], [35, 36, 31], [37, 31], [31, 38]] 16 [(24, 1), (25, 8), (26, 50331648), (27, 67108864), (28, 134217728), (29, 268435456), (30, 536870912), (31, 1073741824), (32, 2147483649), (33, 2147483656), (34, 15032385536), (35, 19327352832), (36, 2147483648), (37, 105226698752), (38, 139586437120), (39, 277025390592)] mixed (by kernel_rfl) rfl rfl) | (apply W.draw2 (id := 10) [0, 1, 3, 7, 7, 23, 55, 127, 255, 7, 7, 1543, 3591, 8191, 16383, 32767] [[3], [40], [41], [0, 42], [3, 42], [44, 42], [45, 42], [43, 46, 42], [47, 42], [0, 42], [3, 42], [49, 50, 42], [51, 42], [48, 52, 42], [53, 42], [42, 54]] 16 [(40, 8), (41, 1099511627776), (42, 2199023255552), (43, 4398046511105), (44, 4398046511112), (45, 21990232555520), (46, 39582418599936), (47, 83562883710976), (48, 145135534866432), (49, 4398046511105), (50, 4398046511112), (51, 1693247906775040), (52, 2256197860196352), (53, 4789472650592256), (54, 9011597301252096), (55, 18018796555993088)] mixed (by kernel_rfl) rfl rfl) | (refine W.condA (ht := fun hb => ?_) (hf := fun hb => ?_) <;> (try simp at hb) <;> (try (exfalso; omega))))
      all_goals first
        | exact Fin.ret ResL.auto
        | (exfalso; omega)
        | trace_state
    rw [show rightFB (nth L k).s (nth L k).d (nth L k).s' (nth L k).d' = true from hr] at r1
    obtain ⟨ov, ev⟩ := Fq.of_val hr
    have c1 := qcmp_ok (nth L k).val 1 ov o1
    rw [show zF (nth L k).val = fqV (nth L k) from (congrArg fqV ev).symm] at c1
    have hsg : (nth L k).s = sgn (nth L k).val.num := congrArg Fq.s ev
    have z1 := sgn_le (nth L k).val
    have z2 := cmpR_le (nth L k).val 1
    rw [← hsg] at z1
    by_cases h0 : k = 0
    · subst h0
      have c2 := qcmp_ok (nth L 0).val (nth L 0).val ov ov
      rw [show zF (nth L 0).val = fqV (nth L 0) from (congrArg fqV ev).symm] at c2
      have hch : chk L 0 ↔ (¬ (nth L 0).s ≤ 0 ∧ ¬ 0 < cmpR (nth L 0).val 1) := by
        unfold chk
        rw [show prv L 0 = 1 from rfl]
        constructor
        · rintro ⟨_, a, b⟩
          exact ⟨fun q => by have := z1.1 q; grind, fun q => by have := z2.2 b; omega⟩
        · rintro ⟨a, b⟩
          exact ⟨hr, by have := fun t => a (z1.2 t); grind, z2.1 (by omega)⟩
      generalize cmpR (nth L 0).val 1 = C at *
      generalize cmpR (nth L 0).val (nth L 0).val = C2 at *
      by_cases hc : chk L 0
      · obtain ⟨y1, y2⟩ := hch.1 hc
        repeat' (first | ((first | apply U_ | (apply Ug_; exact rfl; exact rfl) | (apply Ugq_; exact rfl; exact rfl) | apply Lex.u | (apply Lex.g; exact rfl; exact rfl) | (apply Lex.gq; exact rfl; exact rfl)); (first | (apply Q_indexd TYok; exact Ev.auto; exact Ev.auto; exact rfl; exact rfl; exact rfl; (intro hg; exact getRowI (by omega)); exact rfl) | exact QX.B TYok | exact QX.Num TYok | exact QX.Len TYok | exact QX.Idx TYok | exact QCd (r1) | exact QCd (w1) | exact QCd (c1) | exact QCd (c2)); exact rfl) | refine SC ?_ | refine SG ?_ | (apply W.draw2 (id := 8) [0, 0, 3, 7, 15, 31, 63, 127, 255, 255, 1023, 2047, 255, 8191, 16383, 32767] [[0], [3], [24, 25], [26], [27], [28], [29], [30], [0, 31], [3, 31], [32, 33, 31], [34, 31], [31], [35, 36, 31], [37, 31], [31, 38]] 16 [(24, 1), (25, 8), (26, 50331648), (27, 67108864), (28, 134217728), (29, 268435456), (30, 536870912), (31, 1073741824), (32, 2147483649), (33, 2147483656), (34, 15032385536), (35, 19327352832), (36, 2147483648), (37, 105226698752), (38, 139586437120), (39, 277025390592)] mixed (by kernel_rfl) rfl rfl) | (apply W.draw2 (id := 10) [0, 1, 3, 7, 7, 23, 55, 127, 255, 7, 7, 1543, 3591, 8191, 16383, 32767] [[3], [40], [41], [0, 42], [3, 42], [44, 42], [45, 42], [43, 46, 42], [47, 42], [0, 42], [3, 42], [49, 50, 42], [51, 42], [48, 52, 42], [53, 42], [42, 54]] 16 [(40, 8), (41, 1099511627776), (42, 2199023255552), (43, 4398046511105), (44, 4398046511112), (45, 21990232555520), (46, 39582418599936), (47, 83562883710976), (48, 145135534866432), (49, 4398046511105), (50, 4398046511112), (51, 1693247906775040), (52, 2256197860196352), (53, 4789472650592256), (54, 9011597301252096), (55, 18018796555993088)] mixed (by kernel_rfl) rfl rfl) | (refine W.condA (ht := fun hb => ?_) (hf := fun hb => ?_) <;> (try simp at hb) <;> (try (exfalso; first | exact hLn hb | omega))))
        all_goals first
          | (refine ⟨0 + 1, ⟨by omega, fun j hj => ?_⟩, ?_, by omega⟩
             · obtain rfl : j = 0 := by omega
               exact hc
             · exact Le.auto)
          | (exfalso; omega)
          | trace_state
      · have hbf : b = false := by
          rw [Bool.eq_false_iff]
          exact fun q => hc ((hbb.1 q).1 0 hk)
        subst hbf
        have y : ¬ (¬ (nth L 0).s ≤ 0 ∧ ¬ 0 < C) := fun q => hc (hch.2 q)
        repeat' (first | ((first | apply U_ | (apply Ug_; exact rfl; exact rfl) | (apply Ugq_; exact rfl; exact rfl) | apply Lex.u | (apply Lex.g; exact rfl; exact rfl) | (apply Lex.gq; exact rfl; exact rfl)); (first | (apply Q_indexd TYok; exact Ev.auto; exact Ev.auto; exact rfl; exact rfl; exact rfl; (intro hg; exact getRowI (by omega)); exact rfl) | exact QX.B TYok | exact QX.Num TYok | exact QX.Len TYok | exact QX.Idx TYok | exact QCd (r1) | exact QCd (w1) | exact QCd (c1) | exact QCd (c2)); exact rfl) | refine SC ?_ | refine SG ?_ | (apply W.draw2 (id := 8) [0, 0, 3, 7, 15, 31, 63, 127, 255, 255, 1023, 2047, 255, 8191, 16383, 32767] [[0], [3], [24, 25], [26], [27], [28], [29], [30], [0, 31], [3, 31], [32, 33, 31], [34, 31], [31], [35, 36, 31], [37, 31], [31, 38]] 16 [(24, 1), (25, 8), (26, 50331648), (27, 67108864), (28, 134217728), (29, 268435456), (30, 536870912), (31, 1073741824), (32, 2147483649), (33, 2147483656), (34, 15032385536), (35, 19327352832), (36, 2147483648), (37, 105226698752), (38, 139586437120), (39, 277025390592)] mixed (by kernel_rfl) rfl rfl) | (apply W.draw2 (id := 10) [0, 1, 3, 7, 7, 23, 55, 127, 255, 7, 7, 1543, 3591, 8191, 16383, 32767] [[3], [40], [41], [0, 42], [3, 42], [44, 42], [45, 42], [43, 46, 42], [47, 42], [0, 42], [3, 42], [49, 50, 42], [51, 42], [48, 52, 42], [53, 42], [42, 54]] 16 [(40, 8), (41, 1099511627776), (42, 2199023255552), (43, 4398046511105), (44, 4398046511112), (45, 21990232555520), (46, 39582418599936), (47, 83562883710976), (48, 145135534866432), (49, 4398046511105), (50, 4398046511112), (51, 1693247906775040), (52, 2256197860196352), (53, 4789472650592256), (54, 9011597301252096), (55, 18018796555993088)] mixed (by kernel_rfl) rfl rfl) | (refine W.condA (ht := fun hb => ?_) (hf := fun hb => ?_) <;> (try simp at hb) <;> (try (exfalso; first | exact hLn hb | omega))))
        all_goals first
          | exact Fin.ret ResL.auto
          | (exfalso; omega)
          | trace_state
    · obtain ⟨i, rfl⟩ : ∃ i, k = i + 1 := ⟨k - 1, by omega⟩
      have hci := g2 i (by omega)
      obtain ⟨ovi, evi⟩ := Fq.of_val hci.1
      have c2 := qcmp_ok (nth L i).val (nth L (i + 1)).val ovi ov
      rw [show zF (nth L i).val = fqV (nth L i) from (congrArg fqV evi).symm, show zF (nth L (i + 1)).val = fqV (nth L (i + 1)) from (congrArg fqV ev).symm] at c2
      have z3 := cmpR_lt (nth L i).val (nth L (i + 1)).val
      rw [prv_succ] at op p1
      have hch : chk L (i + 1) ↔ (¬ (nth L (i + 1)).s ≤ 0 ∧ ¬ cmpR (nth L i).val (nth L (i + 1)).val < 0) := by
        unfold chk
        rw [prv_succ]
        constructor
        · rintro ⟨_, a, b⟩
          exact ⟨fun q => by have := z1.1 q; grind, fun q => by have := z3.1 q; grind⟩
        · rintro ⟨a, b⟩
          exact ⟨hr, by have := fun t => a (z1.2 t); grind, by have := fun t => b (z3.2 t); grind⟩
      have hgt : 0 < cmpR (nth L (i + 1)).val 1 → cmpR (nth L i).val (nth L (i + 1)).val < 0 := fun q => z3.2 (by
        by_cases w : (nth L (i + 1)).val ≤ 1
        · have := z2.2 w; omega
        · grind)
      generalize cmpR (nth L (i + 1)).val 1 = C at *
      generalize cmpR (nth L i).val (nth L (i + 1)).val = C2 at *
      by_cases hc : chk L (i + 1)
      · obtain ⟨y1, y2⟩ := hch.1 hc
        repeat' (first | ((first | apply U_ | (apply Ug_; exact rfl; exact rfl) | (apply Ugq_; exact rfl; exact rfl) | apply Lex.u | (apply Lex.g; exact rfl; exact rfl) | (apply Lex.gq; exact rfl; exact rfl)); (first | (apply Q_indexd TYok; exact Ev.auto; exact Ev.auto; exact rfl; exact rfl; exact rfl; (intro hg; rw [show max ((((i + 1 : Nat)) : Int) - 1) 0 = (i : Int) by omega]; exact getRowN (by omega)); exact rfl) | exact QX.B TYok | exact QX.Num TYok | exact QX.Len TYok | exact QX.Idx TYok | exact QCd (r1) | exact QCd (w1) | exact QCd (c1) | exact QCd (c2)); exact rfl) | refine SC ?_ | refine SG ?_ | (apply W.draw2 (id := 8) [0, 0, 3, 7, 15, 31, 63, 127, 255, 255, 1023, 2047, 255, 8191, 16383, 32767] [[0], [3], [24, 25], [26], [27], [28], [29], [30], [0, 31], [3, 31], [32, 33, 31], [34, 31], [31], [35, 36, 31], [37, 31], [31, 38]] 16 [(24, 1), (25, 8), (26, 50331648), (27, 67108864), (28, 134217728), (29, 268435456), (30, 536870912), (31, 1073741824), (32, 2147483649), (33, 2147483656), (34, 15032385536), (35, 19327352832), (36, 2147483648), (37, 105226698752), (38, 139586437120), (39, 277025390592)] mixed (by kernel_rfl) rfl rfl) | (apply W.draw2 (id := 10) [0, 1, 3, 7, 7, 23, 55, 127, 255, 7, 7, 1543, 3591, 8191, 16383, 32767] [[3], [40], [41], [0, 42], [3, 42], [44, 42], [45, 42], [43, 46, 42], [47, 42], [0, 42], [3, 42], [49, 50, 42], [51, 42], [48, 52, 42], [53, 42], [42, 54]] 16 [(40, 8), (41, 1099511627776), (42, 2199023255552), (43, 4398046511105), (44, 4398046511112), (45, 21990232555520), (46, 39582418599936), (47, 83562883710976), (48, 145135534866432), (49, 4398046511105), (50, 4398046511112), (51, 1693247906775040), (52, 2256197860196352), (53, 4789472650592256), (54, 9011597301252096), (55, 18018796555993088)] mixed (by kernel_rfl) rfl rfl) | (refine W.condA (ht := fun hb => ?_) (hf := fun hb => ?_) <;> (try simp at hb) <;> (try (exfalso; first | exact hLn hb | omega))))
        all_goals first
          | (refine ⟨i + 1 + 1, ⟨by omega, fun j hj => ?_⟩, ?_, by omega⟩
             · rcases Nat.lt_or_ge j (i + 1) with q | q
               · exact g2 j q
               · obtain rfl : j = i + 1 := by omega
                 exact hc
             · exact Le.auto)
          | (exfalso; omega)
          | trace_state
      · have hbf : b = false := by
          rw [Bool.eq_false_iff]
          exact fun q => hc ((hbb.1 q).1 (i + 1) hk)
        subst hbf
        have y : ¬ (¬ (nth L (i + 1)).s ≤ 0 ∧ ¬ C2 < 0) := fun q => hc (hch.2 q)
        repeat' (first | ((first | apply U_ | (apply Ug_; exact rfl; exact rfl) | (apply Ugq_; exact rfl; exact rfl) | apply Lex.u | (apply Lex.g; exact rfl; exact rfl) | (apply Lex.gq; exact rfl; exact rfl)); (first | (apply Q_indexd TYok; exact Ev.auto; exact Ev.auto; exact rfl; exact rfl; exact rfl; (intro hg; rw [show max ((((i + 1 : Nat)) : Int) - 1) 0 = (i : Int) by omega]; exact getRowN (by omega)); exact rfl) | exact QX.B TYok | exact QX.Num TYok | exact QX.Len TYok | exact QX.Idx TYok | exact QCd (r1) | exact QCd (w1) | exact QCd (c1) | exact QCd (c2)); exact rfl) | refine SC ?_ | refine SG ?_ | (apply W.draw2 (id := 8) [0, 0, 3, 7, 15, 31, 63, 127, 255, 255, 1023, 2047, 255, 8191, 16383, 32767] [[0], [3], [24, 25], [26], [27], [28], [29], [30], [0, 31], [3, 31], [32, 33, 31], [34, 31], [31], [35, 36, 31], [37, 31], [31, 38]] 16 [(24, 1), (25, 8), (26, 50331648), (27, 67108864), (28, 134217728), (29, 268435456), (30, 536870912), (31, 1073741824), (32, 2147483649), (33, 2147483656), (34, 15032385536), (35, 19327352832), (36, 2147483648), (37, 105226698752), (38, 139586437120), (39, 277025390592)] mixed (by kernel_rfl) rfl rfl) | (apply W.draw2 (id := 10) [0, 1, 3, 7, 7, 23, 55, 127, 255, 7, 7, 1543, 3591, 8191, 16383, 32767] [[3], [40], [41], [0, 42], [3, 42], [44, 42], [45, 42], [43, 46, 42], [47, 42], [0, 42], [3, 42], [49, 50, 42], [51, 42], [48, 52, 42], [53, 42], [42, 54]] 16 [(40, 8), (41, 1099511627776), (42, 2199023255552), (43, 4398046511105), (44, 4398046511112), (45, 21990232555520), (46, 39582418599936), (47, 83562883710976), (48, 145135534866432), (49, 4398046511105), (50, 4398046511112), (51, 1693247906775040), (52, 2256197860196352), (53, 4789472650592256), (54, 9011597301252096), (55, 18018796555993088)] mixed (by kernel_rfl) rfl rfl) | (refine W.condA (ht := fun hb => ?_) (hf := fun hb => ?_) <;> (try simp at hb) <;> (try (exfalso; first | exact hLn hb | omega))))
        all_goals first
          | exact Fin.ret ResL.auto
          | (exfalso; omega)
          | trace_state
end
end Go.Proofs.Ytgpcmgjdkefdjaa
end
section
set_option linter.unusedVariables false
set_option linter.unusedSimpArgs false
set_option maxHeartbeats 8000000
namespace Go.Proofs.Ytgpcmgjdkefdjaa
open Lf Go
attribute [local irreducible] PureOp EffOp Ev RG W Then InBlock Lf.Fin nth App InitE Pick SubE EvL EvD EvP EvR ResL Lf.Lex SubR SubBR RA RAll EvC FinO FinM ResM ResD FinS val pw digs trimL
section
/-- the factors have few digits -/
def fewF (L : List Fq) : Prop := ∀ q ∈ L, q.d.length ≤ 6 ∧ q.d'.length ≤ 6
theorem fac_bd {L : List Fq} (h : FOk L) (hf : fewF L) {k : Nat} (hk : k < L.length) : bd (nth L k).val 6 := by
  obtain ⟨o, e⟩ := Fq.of_val (h.1 k hk).1
  have := hf _ (nth_mem hk)
  have h1 : (nth L k).d = digs (mag (nth L k).val.num) := congrArg Fq.d e
  have h2 : (nth L k).d' = digs (mag (nth L k).val.den) := congrArg Fq.d' e
  rw [h1, h2] at this
  exact bd_of this.1 this.2
def yrI (d : Int) (f : Fl) : Int := (f.day - d) / 365
def term (L : List Fq) (d : Int) (f : Fl) : Rat := (f.amt : Rat) * (nth L (yrI d f).toNat).val
def vsum (L : List Fq) (d : Int) (l : List Fl) : Nat → Rat
  | 0 => 0
  | k + 1 => vsum L d l k + term L d (nth l k)
structure VIn (l : List Fl) (d : Int) (L : List Fq) : Prop where
  fl : flowsB l d = true
  fk : FOk L
  fw : fewF L
  early : ∀ f ∈ l, d ≤ f.day
  late : ∀ f ∈ l, yrI d f < L.length
theorem VIn.term_bd {l : List Fl} {d : Int} {L : List Fq} (h : VIn l d L) {k : Nat} (hk : k < l.length) : (0 ≤ yrI d (nth l k) ∧ yrI d (nth l k) < L.length) ∧ bd (term L d (nth l k)) 10 ∧ mulOk ((nth l k).amt : Rat) (nth L (yrI d (nth l k)).toNat).val := by
  have hm := nth_mem hk
  have h1 := (flowsB_yes h.fl).2 _ hm
  have h2 := h.early _ hm
  have h3 := h.late _ hm
  have h4 : 0 ≤ yrI d (nth l k) := by unfold yrI; omega
  have b1 := fac_bd h.fk h.fw (k := (yrI d (nth l k)).toNat) (by omega)
  have m := mul_bd (k := 10) (by omega) (int_bd (n := (nth l k).amt) (by omega)) b1 (by omega)
  exact ⟨⟨h4, h3⟩, m.1, m.2⟩
theorem vsum_ok {l : List Fl} {d : Int} {L : List Fq} (h : VIn l d L) {n : Nat} (hn : n ≤ l.length) (hu : ∀ j, j < n → addOk (vsum L d l j) (term L d (nth l j))) : ∀ j, j ≤ n → okF (vsum L d l j)
  | 0, _ => okF_int (n := 0) (by unfold i64B; omega)
  | j + 1, hj => addOk_okF (hu j (by omega))
attribute [local irreducible] sgn mag gcdZ quoZ remZ fullZ fullE
theorem early_ok (f : Fl) (d : Int) : ACalls Try.prog 28 [aW f, .one (.ptr [.int .i64 d])] (.pv (cB (decide (f.day < d)))) := by
  refine ACalls.of_W (qs := [cB (decide (f.day < d))]) [3] 8 Try.func28 (by kernel_rfl) rfl rfl rfl fun G => ?_
  refine W.initA (hw := ?_)
  repeat' (first | ((first | apply U_); (first | exact QX.B TYok); exact rfl) | refine SX.Box TYok (h := ?_) | refine SC ?_ | (refine W.condA (ht := fun hb => ?_) (hf := fun hb => ?_) <;> (try simp at hb) <;> (try (exfalso; omega))))
  all_goals first
    | exact Fin.ret ResL.auto
    | trace_state
theorem late_ok (f : Fl) (d : Int) (L : List Fq) (h : (0 ≤ f.day ∧ f.day ≤ 200000) ∧ (0 ≤ d ∧ d ≤ f.day)) : ACalls Try.prog 29 [aW f, .one (.ptr [.int .i64 d]), .one (.ptr [.sl (L.map encF)])] (.pv (cB (decide ((L.length : Int) ≤ yrI d f)))) := by
  unfold yrI
  refine ACalls.of_W (qs := [cB (decide ((L.length : Int) ≤ (f.day - d) / 365))]) [4] 13 Try.func29 (by kernel_rfl) rfl rfl rfl fun G => ?_
  refine W.initA (hw := ?_)
  repeat' (first | ((first | apply U_); (first | exact QX.B TYok | exact QX.Len TYok); exact rfl) | refine SX.Box TYok (h := ?_) | refine SC ?_ | (refine W.condA (ht := fun hb => ?_) (hf := fun hb => ?_) <;> (try simp at hb) <;> (try (exfalso; omega))))
  all_goals first
    | exact Fin.ret ResL.auto
    | trace_state
section
variable (l : List Fl) (d : Int) (L : List Fq) (hl : l.length ≤ 9223372036854775807) (hL : L.length ≤ 9223372036854775807) (hq : ∀ q ∈ L, FqOk q)
include hl hL hq
open Classical in
theorem value_arg (h : ¬ (flowsB l d = true ∧ FOk L)) : ACalls Try.prog 10 [slW l, cI d, slF L] (.tup [zF0, cI 1]) := by
  have p1 := pright_ok l d hl
  have p2 := pfac_ok L hL hq (decide (FOk L)) (by simp)
  have hbad : flowsB l d = true ∧ decide (FOk L) = true → False := fun q => h ⟨q.1, of_decide_eq_true q.2⟩
  generalize flowsB l d = b1 at *
  generalize decide (FOk L) = b2 at *
  refine ACalls.of_M TYok (qs := [zF0, cI 1]) [.cell 6 31, .tmp 7] 67 Try.func10 (by kernel_rfl) rfl rfl rfl fun G => ?_
  refine W.initA (hw := ?_)
  repeat' (first | ((first | apply U_ | (apply Ug_; exact rfl; exact rfl) | (apply Ugq_; exact rfl; exact rfl)); (first | exact QX.B TYok | exact QX.Len TYok | exact QX.Idx TYok | exact QX.Ext TYok | exact QX.Build TYok | exact QX.Fun TYok | exact QCd (p1) | exact QCd (p2)); exact rfl) | refine SX.Alloc TYok (h := ?_) | refine SX.Store TYok (h := ?_) | refine SX.Box TYok (h := ?_) | refine SC ?_ | (apply S_isnil TYok; exact rfl; exact rfl; exact rfl; exact Ev.auto; intro bn hnil) | refine SG ?_ | apply LexS.nil | (apply LexS.f; exact rfl; (first | (apply FreshV.alloc TYok; exact rfl; exact rfl; exact rfl; exact rfl) | (apply FreshV.lit TYok; (repeat (first | exact EvR.nil | apply EvR.cons Ev.auto)); exact rfl; exact rfl; exact rfl; exact rfl; exact rfl; exact rfl; exact rfl; exact rfl; exact rfl) | (apply FreshV.box; exact Ev.auto; exact rfl; exact rfl; exact rfl)); exact rfl; exact rfl; exact rfl) | (apply LexS.s; exact rfl; exact rfl; (apply StoreV.mk TYok; exact Ev.auto; exact Ev.auto; exact rfl; exact rfl; exact rfl; exact rfl; exact rfl)) | ((first | apply LexS.u | (apply LexS.g; exact rfl; exact rfl) | (apply LexS.gq; exact rfl; exact rfl)); (repeat (first | (apply NB.cons; exact rfl) | exact NB.nil rfl)); (first | exact QX.B TYok | exact QX.Len TYok | exact QX.Idx TYok | exact QX.Ext TYok | exact QX.Build TYok | exact QX.Fun TYok | exact QCd (p1) | exact QCd (p2)); exact rfl; exact rfl; exact rfl) | (refine W.drawS (id := 11) [0, 1, 3, 0, 0, 16, 0, 112, 240, 504, 1016, 2047, 4095, 8191, 8191, 0, 49151, 131071] [[10], [39], [40], [5], [10], [43], [4], [44, 45], [46], [42, 47], [48], [41, 49], [50], [38], [38], [], [11, 51], [52]] [(16, (11, ?_)), (15, (11, ?_))] [(16, 11), (15, 11)] mixed (by kernel_rfl) rfl ?_; rotate_left 2) | (refine W.condA (ht := fun hb => ?_) (hf := fun hb => ?_) <;> (try simp at hb) <;> (try (exfalso; first | exact hbad hb | omega))))
  all_goals first
    | exact FinM.ret (ResM.cell rfl rfl rfl rfl zeroSubF (ResM.tmp rfl rfl PSub.rfl' ResM.nil))
    | trace_state
theorem value_early (h1 : flowsB l d = true) (h2 : FOk L) (he : (l.any fun f => decide (f.day < d)) = true) : ACalls Try.prog 10 [slW l, cI d, slF L] (.tup [zF0, cI 20]) := by
  have p1 := pright_ok l d hl
  rw [h1] at p1
  have p2 := pfac_ok L hL hq true (by simp [h2])
  have c1 := contains_ok l 28 [.ptr [.int .i64 d]] (fun f => decide (f.day < d)) hl (fun x _ => early_ok x d)
  rw [he] at c1
  refine ACalls.of_M TYok (qs := [zF0, cI 20]) [.cell 6 31, .tmp 7] 67 Try.func10 (by kernel_rfl) rfl rfl rfl fun G => ?_
  refine W.initA (hw := ?_)
  repeat' (first | (refine W.weaken (Le.freeze1 (m := 4) rfl) ?_; refine W.weaken (Le.freeze1 (m := 5) rfl) ?_; apply W.region (id := 3)) | ((first | apply U_ | (apply Ug_; exact rfl; exact rfl) | (apply Ugq_; exact rfl; exact rfl)); (first | exact QX.B TYok | exact QX.Len TYok | exact QX.Idx TYok | exact QX.Ext TYok | exact QX.Build TYok | exact QX.Fun TYok | exact QCd (p1) | exact QCd (p2) | exact QCd (c1)); exact rfl) | refine SX.Alloc TYok (h := ?_) | refine SX.Store TYok (h := ?_) | refine SX.Box TYok (h := ?_) | refine SC ?_ | (apply S_isnil TYok; exact rfl; exact rfl; exact rfl; exact Ev.auto; intro bn hnil) | refine SG ?_ | apply LexS.nil | (apply LexS.f; exact rfl; (first | (apply FreshV.alloc TYok; exact rfl; exact rfl; exact rfl; exact rfl) | (apply FreshV.lit TYok; (repeat (first | exact EvR.nil | apply EvR.cons Ev.auto)); exact rfl; exact rfl; exact rfl; exact rfl; exact rfl; exact rfl; exact rfl; exact rfl; exact rfl) | (apply FreshV.box; exact Ev.auto; exact rfl; exact rfl; exact rfl)); exact rfl; exact rfl; exact rfl) | (apply LexS.s; exact rfl; exact rfl; (apply StoreV.mk TYok; exact Ev.auto; exact Ev.auto; exact rfl; exact rfl; exact rfl; exact rfl; exact rfl)) | ((first | apply LexS.u | (apply LexS.g; exact rfl; exact rfl) | (apply LexS.gq; exact rfl; exact rfl)); (repeat (first | (apply NB.cons; exact rfl) | exact NB.nil rfl)); (first | exact QX.B TYok | exact QX.Len TYok | exact QX.Idx TYok | exact QX.Ext TYok | exact QX.Build TYok | exact QX.Fun TYok | exact QCd (p1) | exact QCd (p2) | exact QCd (c1)); exact rfl; exact rfl; exact rfl) | (refine W.drawS (id := 11) [0, 1, 3, 0, 0, 16, 0, 112, 240, 504, 1016, 2047, 4095, 8191, 8191, 0, 49151, 131071] [[10], [39], [40], [5], [10], [43], [4], [44, 45], [46], [42, 47], [48], [41, 49], [50], [38], [38], [], [11, 51], [52]] [(16, (11, ?_)), (15, (11, ?_))] [(16, 11), (15, 11)] mixed (by kernel_rfl) rfl ?_; rotate_left 2) | (refine W.condA (ht := fun hb => ?_) (hf := fun hb => ?_) <;> (try simp at hb) <;> (try (exfalso; omega))))
  all_goals first
    | exact FinM.ret (ResM.cell rfl rfl rfl rfl zeroSubF (ResM.tmp rfl rfl PSub.rfl' ResM.nil))
    | trace_state
theorem value_late (h1 : flowsB l d = true) (h2 : FOk L) (he : (l.any fun f => decide (f.day < d)) = false) (hla : (l.any fun f => decide ((L.length : Int) ≤ yrI d f)) = true) : ACalls Try.prog 10 [slW l, cI d, slF L] (.tup [zF0, cI 3]) := by
  have p1 := pright_ok l d hl
  rw [h1] at p1
  have p2 := pfac_ok L hL hq true (by simp [h2])
  have fy := flowsB_yes h1
  have c1 := contains_ok l 28 [.ptr [.int .i64 d]] (fun f => decide (f.day < d)) hl (fun x _ => early_ok x d)
  have c2 := contains_ok l 29 [.ptr [.int .i64 d], .ptr [.sl (L.map encF)]] (fun f => decide ((L.length : Int) ≤ yrI d f)) hl (fun x hx => late_ok x d L (by
    have := fy.2 x hx
    have h3 := List.any_eq_false.1 he x hx
    simp only [decide_eq_true_iff] at h3
    omega))
  rw [he] at c1
  rw [hla] at c2
  refine ACalls.of_M TYok (qs := [zF0, cI 3]) [.cell 6 31, .tmp 7] 67 Try.func10 (by kernel_rfl) rfl rfl rfl fun G => ?_
  refine W.initA (hw := ?_)
  repeat' (first | (refine W.weaken (Le.freeze1 (m := 4) rfl) ?_; refine W.weaken (Le.freeze1 (m := 5) rfl) ?_; apply W.region (id := 3)) | ((first | apply U_ | (apply Ug_; exact rfl; exact rfl) | (apply Ugq_; exact rfl; exact rfl)); (first | exact QX.B TYok | exact QX.Len TYok | exact QX.Idx TYok | exact QX.Ext TYok | exact QX.Build TYok | exact QX.Fun TYok | exact QCd (p1) | exact QCd (p2) | exact QCd (c1) | exact QCd (c2)); exact rfl) | refine SX.Alloc TYok (h := ?_) | refine SX.Store TYok (h := ?_) | refine SX.Box TYok (h := ?_) | refine SC ?_ | (apply S_isnil TYok; exact rfl; exact rfl; exact rfl; exact Ev.auto; intro bn hnil) | refine SG ?_ | apply LexS.nil | (apply LexS.f; exact rfl; (first | (apply FreshV.alloc TYok; exact rfl; exact rfl; exact rfl; exact rfl) | (apply FreshV.lit TYok; (repeat (first | exact EvR.nil | apply EvR.cons Ev.auto)); exact rfl; exact rfl; exact rfl; exact rfl; exact rfl; exact rfl; exact rfl; exact rfl; exact rfl) | (apply FreshV.box; exact Ev.auto; exact rfl; exact rfl; exact rfl)); exact rfl; exact rfl; exact rfl) | (apply LexS.s; exact rfl; exact rfl; (apply StoreV.mk TYok; exact Ev.auto; exact Ev.auto; exact rfl; exact rfl; exact rfl; exact rfl; exact rfl)) | ((first | apply LexS.u | (apply LexS.g; exact rfl; exact rfl) | (apply LexS.gq; exact rfl; exact rfl)); (repeat (first | (apply NB.cons; exact rfl) | exact NB.nil rfl)); (first | exact QX.B TYok | exact QX.Len TYok | exact QX.Idx TYok | exact QX.Ext TYok | exact QX.Build TYok | exact QX.Fun TYok | exact QCd (p1) | exact QCd (p2) | exact QCd (c1) | exact QCd (c2)); exact rfl; exact rfl; exact rfl) | (refine W.drawS (id := 11) [0, 1, 3, 0, 0, 16, 0, 112, 240, 504, 1016, 2047, 4095, 8191, 8191, 0, 49151, 131071] [[10], [39], [40], [5], [10], [43], [4], [44, 45], [46], [42, 47], [48], [41, 49], [50], [38], [38], [], [11, 51], [52]] [(16, (11, ?_)), (15, (11, ?_))] [(16, 11), (15, 11)] mixed (by kernel_rfl) rfl ?_; rotate_left 2) | (refine W.condA (ht := fun hb => ?_) (hf := fun hb => ?_) <;> (try simp at hb) <;> (try (exfalso; omega))))
  all_goals first
    | exact FinM.ret (ResM.cell rfl rfl rfl rfl zeroSubF (ResM.tmp rfl rfl PSub.rfl' ResM.nil))
    | trace_state
end
section
variable (l : List Fl) (d : Int) (L : List Fq) (hv : VIn l d L) (hq : ∀ q ∈ L, FqOk q)
include hv hq
theorem value_walk (n : Nat) (hn : n ≤ l.length) (hu : ∀ j, j < n → addOk (vsum L d l j) (term L d (nth l j))) (e : Int) (V : PV) (he : (e = 0 ∧ n = l.length ∧ V = zF (vsum L d l n)) ∨ (e = 6 ∧ n < l.length ∧ V = zF0 ∧ ¬ addOk (vsum L d l n) (term L d (nth l n)))) :
    ACalls Try.prog 10 [slW l, cI d, slF L] (.tup [V, cI e]) := by
  have fy := flowsB_yes hv.fl
  have hl : l.length ≤ 9223372036854775807 := by omega
  have hL : L.length ≤ 9223372036854775807 := by have := hv.fk.2; omega
  have p1 := pright_ok l d hl
  rw [hv.fl] at p1
  have p2 := pfac_ok L hL hq true (by simp [hv.fk])
  have c1 := contains_ok l 28 [.ptr [.int .i64 d]] (fun f => decide (f.day < d)) hl (fun x _ => early_ok x d)
  have c2 := contains_ok l 29 [.ptr [.int .i64 d], .ptr [.sl (L.map encF)]] (fun f => decide ((L.length : Int) ≤ yrI d f)) hl (fun x hx => late_ok x d L (by
    have := fy.2 x hx
    have h3 := hv.early x hx
    omega))
  rw [List.any_eq_false.2 fun x hx => by have := hv.early x hx; simp only [decide_eq_true_iff]; omega] at c1
  rw [List.any_eq_false.2 fun x hx => by have := hv.late x hx; simp only [decide_eq_true_iff]; omega] at c2
  have w0 := whole_ok 0 (by unfold i64B; omega)
  have okS := vsum_ok hv hn hu
  refine ACalls.of_M TYok (qs := [V, cI e]) [.cell 6 31, .tmp 7] 67 Try.func10 (by kernel_rfl) rfl rfl rfl fun G => ?_
  refine W.initA (hw := ?_)
  repeat' (first | (refine W.weaken (Le.freeze1 (m := 4) rfl) ?_; refine W.weaken (Le.freeze1 (m := 5) rfl) ?_; apply W.region (id := 3)) | ((first | apply U_ | (apply Ug_; exact rfl; exact rfl) | (apply Ugq_; exact rfl; exact rfl)); (first | exact QX.B TYok | exact QX.Len TYok | exact QX.Idx TYok | exact QX.Ext TYok | exact QX.Build TYok | exact QX.Fun TYok | exact QCd (p1) | exact QCd (p2) | exact QCd (c1) | exact QCd (c2) | exact QCd (w0)); exact rfl) | refine SX.Alloc TYok (h := ?_) | refine SX.Store TYok (h := ?_) | refine SX.Box TYok (h := ?_) | refine SC ?_ | (apply S_isnil TYok; exact rfl; exact rfl; exact rfl; exact Ev.auto; intro bn hnil) | refine SG ?_ | apply LexS.nil | (apply LexS.f; exact rfl; (first | (apply FreshV.alloc TYok; exact rfl; exact rfl; exact rfl; exact rfl) | (apply FreshV.lit TYok; (repeat (first | exact EvR.nil | apply EvR.cons Ev.auto)); exact rfl; exact rfl; exact rfl; exact rfl; exact rfl; exact rfl; exact rfl; exact rfl; exact rfl) | (apply FreshV.box; exact Ev.auto; exact rfl; exact rfl; exact rfl)); exact rfl; exact rfl; exact rfl) | (apply LexS.s; exact rfl; exact rfl; (apply StoreV.mk TYok; exact Ev.auto; exact Ev.auto; exact rfl; exact rfl; exact rfl; exact rfl; exact rfl)) | ((first | apply LexS.u | (apply LexS.g; exact rfl; exact rfl) | (apply LexS.gq; exact rfl; exact rfl)); (repeat (first | (apply NB.cons; exact rfl) | exact NB.nil rfl)); (first | exact QX.B TYok | exact QX.Len TYok | exact QX.Idx TYok | exact QX.Ext TYok | exact QX.Build TYok | exact QX.Fun TYok | exact QCd (p1) | exact QCd (p2) | exact QCd (c1) | exact QCd (c2) | exact QCd (w0)); exact rfl; exact rfl; exact rfl) | (refine W.drawS (id := 11) [0, 1, 3, 0, 0, 16, 0, 112, 240, 504, 1016, 2047, 4095, 8191, 8191, 0, 49151, 131071] [[10], [39], [40], [5], [10], [43], [4], [44, 45], [46], [42, 47], [48], [41, 49], [50], [38], [38], [], [11, 51], [52]] [(16, (11, ?_)), (15, (11, ?_))] [(16, 11), (15, 11)] mixed (by kernel_rfl) rfl ?_; rotate_left 2) | (refine W.condA (ht := fun hb => ?_) (hf := fun hb => ?_) <;> (try simp at hb) <;> (try (exfalso; omega))))
  apply W.loopP (σ := Nat) 67 [4, 5, 6, 8, 32, 33] (fun k => k ≤ n) (fun k => [(34, vI k)]) (fun k => [(6, ⟨31, 4, [[.int .i64 0, .slnil, .int .i64 0, .slnil]]⟩), (8, ⟨31, 4, [encQ (vsum L d l k)]⟩)]) (fun k => n - k) (0)
  case hp => repeat (first | exact Pick.nil | apply Pick.cons rfl)
  case h0 =>
    refine ⟨by omega, ?_⟩
    exact Le.auto
  case round =>
    rintro k gk
    apply W.norm (by repeat (first | exact App.nil | apply App.cons))
    by_cases hk : k < l.length
    case neg =>
      obtain rfl : k = n := by omega
      rcases he with ⟨rfl, rfl, rfl⟩ | ⟨rfl, h3, rfl, hno⟩
      · generalize vsum L d l l.length = A at *
        repeat' (first | ((first | apply U_ | (apply Ug_; exact rfl; exact rfl) | (apply Ugq_; exact rfl; exact rfl)); (first | exact QX.B TYok | exact QX.Len TYok | exact QX.Idx TYok | exact QX.Ext TYok | exact QX.Build TYok | exact QX.Fun TYok); exact rfl) | refine SX.Alloc TYok (h := ?_) | refine SX.Store TYok (h := ?_) | refine SX.Box TYok (h := ?_) | refine SC ?_ | (apply S_isnil TYok; exact rfl; exact rfl; exact rfl; exact Ev.auto; intro bn hnil) | refine SG ?_ | apply LexS.nil | (apply LexS.f; exact rfl; (first | (apply FreshV.alloc TYok; exact rfl; exact rfl; exact rfl; exact rfl) | (apply FreshV.lit TYok; (repeat (first | exact EvR.nil | apply EvR.cons Ev.auto)); exact rfl; exact rfl; exact rfl; exact rfl; exact rfl; exact rfl; exact rfl; exact rfl; exact rfl) | (apply FreshV.box; exact Ev.auto; exact rfl; exact rfl; exact rfl)); exact rfl; exact rfl; exact rfl) | (apply LexS.s; exact rfl; exact rfl; (apply StoreV.mk TYok; exact Ev.auto; exact Ev.auto; exact rfl; exact rfl; exact rfl; exact rfl; exact rfl)) | ((first | apply LexS.u | (apply LexS.g; exact rfl; exact rfl) | (apply LexS.gq; exact rfl; exact rfl)); (repeat (first | (apply NB.cons; exact rfl) | exact NB.nil rfl)); (first | exact QX.B TYok | exact QX.Len TYok | exact QX.Idx TYok | exact QX.Ext TYok | exact QX.Build TYok | exact QX.Fun TYok); exact rfl; exact rfl; exact rfl) | (refine W.drawS (id := 11) [0, 1, 3, 0, 0, 16, 0, 112, 240, 504, 1016, 2047, 4095, 8191, 8191, 0, 49151, 131071] [[10], [39], [40], [5], [10], [43], [4], [44, 45], [46], [42, 47], [48], [41, 49], [50], [38], [38], [], [11, 51], [52]] [(16, (11, ?_)), (15, (11, ?_))] [(16, 11), (15, 11)] mixed (by kernel_rfl) rfl ?_; rotate_left 2) | (refine W.condA (ht := fun hb => ?_) (hf := fun hb => ?_) <;> (try simp at hb) <;> (try (exfalso; omega))))
        all_goals first
          | exact FinM.ret ResM.auto
          | (exfalso; omega)
          | trace_state
      · exact absurd h3 hk
    obtain ⟨hy, tb, tm⟩ := hv.term_bd hk
    have hm := nth_mem hk
    have f1 := fy.2 _ hm
    have f2 := hv.early _ hm
    have w1 := whole_ok (nth l k).amt (by unfold i64B; omega)
    have oy := hv.fk.1 (yrI d (nth l k)).toNat (by omega)
    obtain ⟨ov, ev⟩ := Fq.of_val oy.1
    have m1 := fmul_yes _ _ (okF_int (n := (nth l k).amt) (by unfold i64B; omega)) ov tm
    rw [show zF (nth L (yrI d (nth l k)).toNat).val = fqV (nth L (yrI d (nth l k)).toNat) from (congrArg fqV ev).symm] at m1
    have et : ((nth l k).amt : Rat) * (nth L (yrI d (nth l k)).toNat).val = term L d (nth l k) := rfl
    rw [et] at m1
    have oS := okS k gk
    have oT := bd_ok tb (by omega)
    have hyI : yrI d (nth l k) = ((nth l k).day - d) / 365 := rfl
    rw [hyI] at m1 hy
    clear et tm tb ev ov oy
    by_cases hk2 : k < n
    · have a1 := add_yes _ _ oS oT (hu k hk2)
      have e1 : vsum L d l (k + 1) = vsum L d l k + term L d (nth l k) := rfl
      rw [← e1] at a1
      clear e1
      generalize hS : vsum L d l k = S at *
      generalize hT : term L d (nth l k) = T at *
      generalize hB : vsum L d l (k + 1) = B at *
      repeat' (first | ((first | apply U_ | (apply Ug_; exact rfl; exact rfl) | (apply Ugq_; exact rfl; exact rfl)); (first | exact QX.B TYok | exact QX.Len TYok | exact QX.Idx TYok | exact QX.Ext TYok | exact QX.Build TYok | exact QX.Fun TYok | exact QCd (w1) | exact QCd (m1) | exact QCd (a1)); exact rfl) | refine SX.Alloc TYok (h := ?_) | refine SX.Store TYok (h := ?_) | refine SX.Box TYok (h := ?_) | refine SC ?_ | (apply S_isnil TYok; exact rfl; exact rfl; exact rfl; exact Ev.auto; intro bn hnil) | refine SG ?_ | apply LexS.nil | (apply LexS.f; exact rfl; (first | (apply FreshV.alloc TYok; exact rfl; exact rfl; exact rfl; exact rfl) | (apply FreshV.lit TYok; (repeat (first | exact EvR.nil | apply EvR.cons Ev.auto)); exact rfl; exact rfl; exact rfl; exact rfl; exact rfl; exact rfl; exact rfl; exact rfl; exact rfl) | (apply FreshV.box; exact Ev.auto; exact rfl; exact rfl; exact rfl)); exact rfl; exact rfl; exact rfl) | (apply LexS.s; exact rfl; exact rfl; (apply StoreV.mk TYok; exact Ev.auto; exact Ev.auto; exact rfl; exact rfl; exact rfl; exact rfl; exact rfl)) | ((first | apply LexS.u | (apply LexS.g; exact rfl; exact rfl) | (apply LexS.gq; exact rfl; exact rfl)); (repeat (first | (apply NB.cons; exact rfl) | exact NB.nil rfl)); (first | exact QX.B TYok | exact QX.Len TYok | exact QX.Idx TYok | exact QX.Ext TYok | exact QX.Build TYok | exact QX.Fun TYok | exact QCd (w1) | exact QCd (m1) | exact QCd (a1)); exact rfl; exact rfl; exact rfl) | (refine W.drawS (id := 11) [0, 1, 3, 0, 0, 16, 0, 112, 240, 504, 1016, 2047, 4095, 8191, 8191, 0, 49151, 131071] [[10], [39], [40], [5], [10], [43], [4], [44, 45], [46], [42, 47], [48], [41, 49], [50], [38], [38], [], [11, 51], [52]] [(16, (11, ?_)), (15, (11, ?_))] [(16, 11), (15, 11)] mixed (by kernel_rfl) rfl ?_; rotate_left 2) | (refine W.condA (ht := fun hb => ?_) (hf := fun hb => ?_) <;> (try simp at hb) <;> (try (exfalso; omega))))
      all_goals first
        | (refine ⟨k + 1, by omega, ?_, by omega⟩; (try dsimp only); rw [hB]; exact Le.auto)
        | trace_state
    · obtain rfl : k = n := by omega
      rcases he with ⟨rfl, h3, rfl⟩ | ⟨rfl, h3, rfl, hno⟩
      · omega
      · have a1 := add_no _ _ oS oT hno
        generalize hS : vsum L d l k = S at *
        generalize hT : term L d (nth l k) = T at *
        repeat' (first | ((first | apply U_ | (apply Ug_; exact rfl; exact rfl) | (apply Ugq_; exact rfl; exact rfl)); (first | exact QX.B TYok | exact QX.Len TYok | exact QX.Idx TYok | exact QX.Ext TYok | exact QX.Build TYok | exact QX.Fun TYok | exact QCd (w1) | exact QCd (m1) | exact QCd (a1)); exact rfl) | refine SX.Alloc TYok (h := ?_) | refine SX.Store TYok (h := ?_) | refine SX.Box TYok (h := ?_) | refine SC ?_ | (apply S_isnil TYok; exact rfl; exact rfl; exact rfl; exact Ev.auto; intro bn hnil) | refine SG ?_ | apply LexS.nil | (apply LexS.f; exact rfl; (first | (apply FreshV.alloc TYok; exact rfl; exact rfl; exact rfl; exact rfl) | (apply FreshV.lit TYok; (repeat (first | exact EvR.nil | apply EvR.cons Ev.auto)); exact rfl; exact rfl; exact rfl; exact rfl; exact rfl; exact rfl; exact rfl; exact rfl; exact rfl) | (apply FreshV.box; exact Ev.auto; exact rfl; exact rfl; exact rfl)); exact rfl; exact rfl; exact rfl) | (apply LexS.s; exact rfl; exact rfl; (apply StoreV.mk TYok; exact Ev.auto; exact Ev.auto; exact rfl; exact rfl; exact rfl; exact rfl; exact rfl)) | ((first | apply LexS.u | (apply LexS.g; exact rfl; exact rfl) | (apply LexS.gq; exact rfl; exact rfl)); (repeat (first | (apply NB.cons; exact rfl) | exact NB.nil rfl)); (first | exact QX.B TYok | exact QX.Len TYok | exact QX.Idx TYok | exact QX.Ext TYok | exact QX.Build TYok | exact QX.Fun TYok | exact QCd (w1) | exact QCd (m1) | exact QCd (a1)); exact rfl; exact rfl; exact rfl) | (refine W.drawS (id := 11) [0, 1, 3, 0, 0, 16, 0, 112, 240, 504, 1016, 2047, 4095, 8191, 8191, 0, 49151, 131071] [[10], [39], [40], [5], [10], [43], [4], [44, 45], [46], [42, 47], [48], [41, 49], [50], [38], [38], [], [11, 51], [52]] [(16, (11, ?_)), (15, (11, ?_))] [(16, 11), (15, 11)] mixed (by kernel_rfl) rfl ?_; rotate_left 2) | (refine W.condA (ht := fun hb => ?_) (hf := fun hb => ?_) <;> (try simp at hb) <;> (try (exfalso; omega))))
        all_goals first
          | exact FinM.ret (ResM.cell rfl rfl rfl rfl zeroSubF (ResM.tmp rfl rfl PSub.rfl' ResM.nil))
          | trace_state
end
end
end Go.Proofs.Ytgpcmgjdkefdjaa
end
