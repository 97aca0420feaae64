/-
  Fractions: comparing, by the integral parts, and then by what is left, upside down.
-/
import Derived.Test.YtipghibmgfhmpaaGreatDoorWalk13
set_option linter.unusedVariables false
set_option linter.unusedSimpArgs false
set_option maxHeartbeats 8000000
namespace Go.Proofs.YtipghibmgfhmpaaGreatDoor
open Lf Go
attribute [local irreducible] PureOp EffOp Ev RG W Then InBlock Lf.Fin nth App InitE Pick SubE SubF SubG EvL EvD EvP EvR ResL Lf.Lex SubR SubBR RA RAll EvC FinO FinM ResM FinB ResD FinS val pw digs trimL

theorem cmp_cases (x y : Int) : (cmpI x y = -1 ∧ x < y) ∨ (cmpI x y = 0 ∧ x = y) ∨ (cmpI x y = 1 ∧ y < x) := by
  unfold cmpI
  split
  · exact .inl ⟨rfl, ‹_›⟩
  · split
    · exact .inr (.inr ⟨rfl, ‹_›⟩)
    · exact .inr (.inl ⟨rfl, by omega⟩)
theorem cmp_swap (x y : Int) : cmpI y x = -cmpI x y := by
  have := cmp_cases x y
  have := cmp_cases y x
  omega
def cmpR (a b : Rat) : Int := cmpI (a.num * b.den) (b.num * a.den)
theorem quo_ltQ {p q r s : Int} (hq : 0 < q) (hs : 0 < s) (h : quoZ p q < quoZ r s) : p * s < r * q := by
  have h1 := quo_rem p q
  have h2 := quo_rem r s
  have h3 := (rem_rng (x := p) (y := q) (by omega)).1 hq
  have h4 := (rem_rng (x := r) (y := s) (by omega)).1 hs
  generalize quoZ p q = x at *
  generalize remZ p q = u at *
  generalize quoZ r s = y at *
  generalize remZ r s = v at *
  have a1 := Int.mul_nonneg (Int.mul_nonneg (show 0 ≤ q by omega) (show 0 ≤ s by omega)) (show 0 ≤ y - x - 1 by omega)
  have a2 := Int.mul_nonneg (show 0 ≤ q by omega) h4.1
  have a3 := Int.mul_nonneg (show 0 ≤ q - 1 - u by omega) (show 0 ≤ s by omega)
  have e : r * q - p * s = q * s * (y - x - 1) + q * v + s + (q - 1 - u) * s := by rw [h1, h2]; grind
  omega
theorem cmp_quo {p q r s : Int} (hq : 0 < q) (hs : 0 < s) (h : quoZ p q ≠ quoZ r s) : cmpI (p * s) (r * q) = cmpI (quoZ p q) (quoZ r s) := by
  have c := cmp_cases (quoZ p q) (quoZ r s)
  have c' := cmp_cases (p * s) (r * q)
  rcases Int.lt_or_gt_of_ne h with h1 | h1
  · have := quo_ltQ hq hs h1; omega
  · have := quo_ltQ hs hq h1; omega
theorem cmp_same {p q r s : Int} (h : quoZ p q = quoZ r s) : cmpI (p * s) (r * q) = cmpI (remZ p q * s) (remZ r s * q) := by
  have h1 := quo_rem p q
  have h2 := quo_rem r s
  rw [h] at h1
  generalize quoZ r s = y at *
  generalize remZ p q = u at *
  generalize remZ r s = v at *
  have e : p * s - r * q = u * s - v * q := by rw [h1, h2]; grind
  have c := cmp_cases (p * s) (r * q)
  have c' := cmp_cases (u * s) (v * q)
  omega
theorem cmp_end {u s v q : Int} (hq : 0 < q) (hs : 0 < s) (hu : 0 ≤ u) (hv : 0 ≤ v) (h : u = 0 ∨ v = 0) : cmpI (u * s) (v * q) = sgn u - sgn v := by
  have cu := sgn_cases u
  have cv := sgn_cases v
  have c := cmp_cases (u * s) (v * q)
  rcases h with rfl | rfl
  · rw [Int.zero_mul] at *
    by_cases h0 : v = 0
    · subst h0; rw [Int.zero_mul] at *; omega
    · have := Int.mul_pos (show 0 < v by omega) hq; omega
  · rw [Int.zero_mul] at *
    by_cases h0 : u = 0
    · subst h0; rw [Int.zero_mul] at *; omega
    · have := Int.mul_pos (show 0 < u by omega) hs; omega
structure CS where
  p : Int
  q : Int
  r : Int
  s : Int
  t : Int
structure CI (T : Int) (z : CS) : Prop where
  op : okZ z.p
  oq : okZ z.q
  or : okZ z.r
  os : okZ z.s
  hq : 0 < z.q
  hs : 0 < z.s
  ht : z.t = 1 ∨ z.t = -1
  eq : z.t * cmpI (z.p * z.s) (z.r * z.q) = T
abbrev bz (x : Int) : Blk := ⟨24, 2, [[.int .i64 (sgn x), .sl ((digs (mag x)).map Lf.encI)]]⟩
attribute [local irreducible] sgn mag gcdZ quoZ remZ txtZ readF fullZ fullE
theorem fcmp_ok (a b : Rat) (ha : okF a) (hB : okF b) : ACalls Tryz.prog 27 [zF a, zF b] (.pv (cI (cmpR a b))) := by
  have r1 := fright_yes a ha
  have r2 := fright_yes b hB
  have da := den_pos a
  have db := den_pos b
  refine ACalls.of_W (qs := [cI (cmpR a b)]) [4] 78 Tryz.func27 (by kernel_rfl) rfl rfl rfl fun G => ?_
  refine W.initA (hw := ?_)
  repeat' (first
    | ((first | apply U_ | (apply Ug_; exact rfl; exact rfl) | (apply Ugq_; exact rfl; exact rfl)); (first
    | exact QX.Move TYok
    | exact QX.Asg TYok
    | exact QX.Fld TYok
    | exact QX.Ld TYok
    | exact QX.Bin TYok
    | exact QX.Pick TYok
    | exact QX.Un TYok
    | exact QX.Ext TYok
    | (apply Q_calld (r1); exact EvD.auto)
    | (apply Q_calld (r2); exact EvD.auto)); exact rfl)
    | refine SX.Alloc TYok (h := ?_)
    | refine SX.Store TYok (h := ?_)
    | refine SX.Box TYok (h := ?_)
    | apply RG.nil
    | apply Lex.nil
    | apply Then.n
    | apply Then.r
    | apply Then.x
    | apply InBlock.n
    | apply InBlock.r
    | apply InBlock.hit
    | (apply InBlock.miss; exact rfl)
    | apply W.seq
    | apply W.region
    | apply W.block
    | apply W.skip
    | apply W.ret
    | apply W.exit
    | (apply S_isnil TYok; exact rfl; exact rfl; exact rfl; exact Ev.auto; intro bn hnil)
    | (apply RG.gT; exact rfl; exact rfl; (first | assumption | decide))
    | (apply RG.gF; exact rfl; exact rfl; (first | assumption | decide | (rw [ne_eq, Bool.not_eq_true]; assumption) | (rw [ne_eq, Bool.not_eq_false]; assumption)); exact rfl)
    | apply LexS.nil
    | (apply LexS.f; exact rfl; (first | (apply FreshV.alloc TYok; exact rfl; exact rfl; exact rfl; exact rfl) | (apply FreshV.lit TYok; (repeat (first | exact EvR.nil | apply EvR.cons Ev.auto)); exact rfl; exact rfl; exact rfl; exact rfl; exact rfl; exact rfl; exact rfl; exact rfl; exact rfl) | (apply FreshV.box; exact Ev.auto; exact rfl; exact rfl; exact rfl)); exact rfl; exact rfl; exact rfl)
    | (apply LexS.s; exact rfl; exact rfl; (apply StoreV.mk TYok; exact Ev.auto; exact Ev.auto; exact rfl; exact rfl; exact rfl; exact rfl; exact rfl))
    | ((first | apply LexS.u | (apply LexS.g; exact rfl; exact rfl) | (apply LexS.gq; exact rfl; exact rfl)); (repeat (first | (apply NB.cons; exact rfl) | exact NB.nil rfl)); (first | exact QX.Move TYok | exact QX.Asg TYok | exact QX.Fld TYok | exact QX.Ld TYok | exact QX.Bin TYok | exact QX.Pick TYok | exact QX.Un TYok | exact QX.Ext TYok | (apply Q_calld (r1); exact EvD.auto) | (apply Q_calld (r2); exact EvD.auto)); exact rfl; exact rfl; exact rfl)
    | (refine W.drawS (id := 3) [0, 1, 0, 4, 0, 16, 0, 64, 0, 0, 0, 0, 3843, 7951, 16191, 32767] [[2], [25], [2], [27], [3], [29], [3], [31], [], [], [], [], [5, 26], [6, 28], [7, 30], [8, 32]] [(15, (8, ?_)), (14, (7, ?_)), (13, (6, ?_)), (12, (5, ?_)), (11, (8, ?_)), (10, (7, ?_)), (9, (6, ?_)), (8, (5, ?_))] [(15, 8), (14, 7), (13, 6), (12, 5), (11, 8), (10, 7), (9, 6), (8, 5)] mixed (by kernel_rfl) rfl ?_; rotate_left 8)
    | (refine W.drawA (id := 13) (L := [false, false, false, false, false, false, false, false]) mixed rfl ?_)
    | exact RAll.nil
    | (refine RAll.cons rfl ?_ ?_)
    | (refine RA.step (L := [false, false, false, false, false, false, false, false]) (i := 0) (is := [1, 2, 3]) (by kernel_rfl) ?_)
    | (refine RA.step (L := [false, false, false, true, false, false, false, false]) (i := 0) (is := [1, 2]) (by kernel_rfl) ?_)
    | (refine RA.step (L := [false, false, true, true, false, false, false, false]) (i := 0) (is := [1]) (by kernel_rfl) ?_)
    | (refine RA.step (L := [false, true, true, true, false, false, false, false]) (i := 0) (is := []) (by kernel_rfl) ?_)
    | (refine RA.step (L := [true, true, true, true, false, false, false, false]) (i := 4) (is := []) (by kernel_rfl) ?_)
    | (refine RA.step (L := [true, true, true, true, true, false, false, false]) (i := 5) (is := []) (by kernel_rfl) ?_)
    | (refine RA.step (L := [true, true, true, true, true, true, false, false]) (i := 6) (is := []) (by kernel_rfl) ?_)
    | (refine RA.step (L := [true, true, true, true, true, true, true, false]) (i := 7) (is := []) (by kernel_rfl) ?_)
    | (refine RA.done (L := [true, true, true, true, true, true, true, true]) (by kernel_rfl) ?_)
    | (refine RA.step (L := [true, false, true, true, false, false, false, false]) (i := 1) (is := [4]) (by kernel_rfl) ?_)
    | (refine RA.step (L := [true, false, true, true, true, false, false, false]) (i := 1) (is := []) (by kernel_rfl) ?_)
    | (refine RA.step (L := [false, true, false, true, false, false, false, false]) (i := 0) (is := [2]) (by kernel_rfl) ?_)
    | (refine RA.step (L := [true, true, false, true, false, false, false, false]) (i := 2) (is := [4]) (by kernel_rfl) ?_)
    | (refine RA.step (L := [true, true, false, true, true, false, false, false]) (i := 2) (is := [5]) (by kernel_rfl) ?_)
    | (refine RA.step (L := [true, true, false, true, true, true, false, false]) (i := 2) (is := []) (by kernel_rfl) ?_)
    | (refine RA.step (L := [true, false, false, true, false, false, false, false]) (i := 1) (is := [2, 4]) (by kernel_rfl) ?_)
    | (refine RA.step (L := [true, false, false, true, true, false, false, false]) (i := 1) (is := [2]) (by kernel_rfl) ?_)
    | (refine RA.step (L := [false, false, true, false, false, false, false, false]) (i := 0) (is := [1, 3]) (by kernel_rfl) ?_)
    | (refine RA.step (L := [false, true, true, false, false, false, false, false]) (i := 0) (is := [3]) (by kernel_rfl) ?_)
    | (refine RA.step (L := [true, true, true, false, false, false, false, false]) (i := 3) (is := [4]) (by kernel_rfl) ?_)
    | (refine RA.step (L := [true, true, true, false, true, false, false, false]) (i := 3) (is := [5]) (by kernel_rfl) ?_)
    | (refine RA.step (L := [true, true, true, false, true, true, false, false]) (i := 3) (is := [6]) (by kernel_rfl) ?_)
    | (refine RA.step (L := [true, true, true, false, true, true, true, false]) (i := 3) (is := []) (by kernel_rfl) ?_)
    | (refine RA.step (L := [true, false, true, false, false, false, false, false]) (i := 1) (is := [3, 4]) (by kernel_rfl) ?_)
    | (refine RA.step (L := [true, false, true, false, true, false, false, false]) (i := 1) (is := [3]) (by kernel_rfl) ?_)
    | (refine RA.step (L := [false, true, false, false, false, false, false, false]) (i := 0) (is := [2, 3]) (by kernel_rfl) ?_)
    | (refine RA.step (L := [true, true, false, false, false, false, false, false]) (i := 2) (is := [3, 4]) (by kernel_rfl) ?_)
    | (refine RA.step (L := [true, true, false, false, true, false, false, false]) (i := 2) (is := [3, 5]) (by kernel_rfl) ?_)
    | (refine RA.step (L := [true, true, false, false, true, true, false, false]) (i := 2) (is := [3]) (by kernel_rfl) ?_)
    | (refine RA.step (L := [true, false, false, false, false, false, false, false]) (i := 1) (is := [2, 3, 4]) (by kernel_rfl) ?_)
    | (refine RA.step (L := [true, false, false, false, true, false, false, false]) (i := 1) (is := [2, 3]) (by kernel_rfl) ?_)
    | (refine W.condA (ht := fun hb => ?_) (hf := fun hb => ?_) <;> (try simp at hb) <;> (try (exfalso; omega))))
  apply W.loopP (σ := CS) 78 [] (CI (cmpR a b)) (fun z => [(9, vI z.t), (5, (True, .addr 5 0 0)), (6, (True, .addr 6 0 0)), (7, (True, .addr 7 0 0)), (8, (True, .addr 8 0 0))]) (fun z => [(5, bz z.p), (6, bz z.q), (7, bz z.r), (8, bz z.s)]) (fun z => z.q.toNat) (⟨a.num, a.den, b.num, b.den, 1⟩)
  case hp => repeat (first | exact Pick.nil | apply Pick.cons rfl)
  case h0 =>
    refine ⟨⟨ha.1, ha.2, hB.1, hB.2, da, db, .inl rfl, by rw [Int.one_mul]; rfl⟩, ?_⟩
    exact Le.auto
  case round =>
    rintro ⟨p, q, r, s, t⟩ ⟨op, oq, or', os, hq, hs, ht, he⟩
    simp only at op oq or' os hq hs ht he
    have d1 := divZ_ok p q op oq (by omega)
    have d2 := divZ_ok r s or' os (by omega)
    have k1 := cmpZ_ok (quoZ p q) (quoZ r s) (okZ_quo op (by omega)) (okZ_quo or' (by omega))
    have hu := (rem_rng (x := p) (y := q) (by omega)).1 hq
    have hv := (rem_rng (x := r) (y := s) (by omega)).1 hs
    have ou := okZ_rem (x := p) oq (by omega)
    have ov := okZ_rem (x := r) os (by omega)
    have cu := sgn_cases (remZ p q)
    have cv := sgn_cases (remZ r s)
    have cc := cmp_cases (quoZ p q) (quoZ r s)
    show Lf.W _ _ _ _ (mkSt 78 [(9, vI t), (5, (True, .addr 5 0 0)), (6, (True, .addr 6 0 0)), (7, (True, .addr 7 0 0)), (8, (True, .addr 8 0 0))] _ [(5, bz p), (6, bz q), (7, bz r), (8, bz s)])
    apply W.norm (by repeat (first | exact App.nil | apply App.cons))
    by_cases h1 : quoZ p q = quoZ r s
    · have e1 := cmp_same h1
      have kc : cmpI (quoZ p q) (quoZ r s) = 0 := by omega
      rw [kc] at k1
      by_cases h2 : remZ p q = 0 ∨ remZ r s = 0
      · have e2 := cmp_end hq hs hu.1 hv.1 h2
        rw [e1, e2] at he
        have hbd : -1 ≤ t * (sgn (remZ p q) - sgn (remZ r s)) ∧ t * (sgn (remZ p q) - sgn (remZ r s)) ≤ 1 := by rcases ht with rfl | rfl <;> omega
        generalize quoZ p q = x at *
        generalize remZ p q = u at *
        generalize quoZ r s = y at *
        generalize remZ r s = v at *
        repeat' (first
          | ((first | apply U_ | (apply Ug_; exact rfl; exact rfl) | (apply Ugq_; exact rfl; exact rfl)); (first
    | exact QX.Move TYok
    | exact QX.Asg TYok
    | exact QX.Fld TYok
    | exact QX.Ld TYok
    | exact QX.Bin TYok
    | exact QX.Pick TYok
    | exact QX.Un TYok
    | exact QX.Ext TYok
    | (apply Q_calld (d1); exact EvD.auto)
    | (apply Q_calld (d2); exact EvD.auto)
    | (apply Q_calld (k1); exact EvD.auto)); exact rfl)
          | refine SX.Alloc TYok (h := ?_)
          | refine SX.Store TYok (h := ?_)
          | refine SX.Box TYok (h := ?_)
          | apply RG.nil
          | apply Lex.nil
          | apply Then.n
          | apply Then.r
          | apply Then.x
          | apply InBlock.n
          | apply InBlock.r
          | apply InBlock.hit
          | (apply InBlock.miss; exact rfl)
          | apply W.seq
          | apply W.region
          | apply W.block
          | apply W.skip
          | apply W.ret
          | apply W.exit
          | (apply S_isnil TYok; exact rfl; exact rfl; exact rfl; exact Ev.auto; intro bn hnil)
          | (apply RG.gT; exact rfl; exact rfl; (first | assumption | decide))
          | (apply RG.gF; exact rfl; exact rfl; (first | assumption | decide | (rw [ne_eq, Bool.not_eq_true]; assumption) | (rw [ne_eq, Bool.not_eq_false]; assumption)); exact rfl)
          | (refine W.drawA (id := 13) (L := [false, false, false, false, false, false, false, false]) mixed rfl ?_)
          | exact RAll.nil
          | (refine RAll.cons rfl ?_ ?_)
          | (refine RA.step (L := [false, false, false, false, false, false, false, false]) (i := 0) (is := [1, 2, 3]) (by kernel_rfl) ?_)
          | (refine RA.step (L := [false, false, false, true, false, false, false, false]) (i := 0) (is := [1, 2]) (by kernel_rfl) ?_)
          | (refine RA.step (L := [false, false, true, true, false, false, false, false]) (i := 0) (is := [1]) (by kernel_rfl) ?_)
          | (refine RA.step (L := [false, true, true, true, false, false, false, false]) (i := 0) (is := []) (by kernel_rfl) ?_)
          | (refine RA.step (L := [true, true, true, true, false, false, false, false]) (i := 4) (is := []) (by kernel_rfl) ?_)
          | (refine RA.step (L := [true, true, true, true, true, false, false, false]) (i := 5) (is := []) (by kernel_rfl) ?_)
          | (refine RA.step (L := [true, true, true, true, true, true, false, false]) (i := 6) (is := []) (by kernel_rfl) ?_)
          | (refine RA.step (L := [true, true, true, true, true, true, true, false]) (i := 7) (is := []) (by kernel_rfl) ?_)
          | (refine RA.done (L := [true, true, true, true, true, true, true, true]) (by kernel_rfl) ?_)
          | (refine RA.step (L := [true, false, true, true, false, false, false, false]) (i := 1) (is := [4]) (by kernel_rfl) ?_)
          | (refine RA.step (L := [true, false, true, true, true, false, false, false]) (i := 1) (is := []) (by kernel_rfl) ?_)
          | (refine RA.step (L := [false, true, false, true, false, false, false, false]) (i := 0) (is := [2]) (by kernel_rfl) ?_)
          | (refine RA.step (L := [true, true, false, true, false, false, false, false]) (i := 2) (is := [4]) (by kernel_rfl) ?_)
          | (refine RA.step (L := [true, true, false, true, true, false, false, false]) (i := 2) (is := [5]) (by kernel_rfl) ?_)
          | (refine RA.step (L := [true, true, false, true, true, true, false, false]) (i := 2) (is := []) (by kernel_rfl) ?_)
          | (refine RA.step (L := [true, false, false, true, false, false, false, false]) (i := 1) (is := [2, 4]) (by kernel_rfl) ?_)
          | (refine RA.step (L := [true, false, false, true, true, false, false, false]) (i := 1) (is := [2]) (by kernel_rfl) ?_)
          | (refine RA.step (L := [false, false, true, false, false, false, false, false]) (i := 0) (is := [1, 3]) (by kernel_rfl) ?_)
          | (refine RA.step (L := [false, true, true, false, false, false, false, false]) (i := 0) (is := [3]) (by kernel_rfl) ?_)
          | (refine RA.step (L := [true, true, true, false, false, false, false, false]) (i := 3) (is := [4]) (by kernel_rfl) ?_)
          | (refine RA.step (L := [true, true, true, false, true, false, false, false]) (i := 3) (is := [5]) (by kernel_rfl) ?_)
          | (refine RA.step (L := [true, true, true, false, true, true, false, false]) (i := 3) (is := [6]) (by kernel_rfl) ?_)
          | (refine RA.step (L := [true, true, true, false, true, true, true, false]) (i := 3) (is := []) (by kernel_rfl) ?_)
          | (refine RA.step (L := [true, false, true, false, false, false, false, false]) (i := 1) (is := [3, 4]) (by kernel_rfl) ?_)
          | (refine RA.step (L := [true, false, true, false, true, false, false, false]) (i := 1) (is := [3]) (by kernel_rfl) ?_)
          | (refine RA.step (L := [false, true, false, false, false, false, false, false]) (i := 0) (is := [2, 3]) (by kernel_rfl) ?_)
          | (refine RA.step (L := [true, true, false, false, false, false, false, false]) (i := 2) (is := [3, 4]) (by kernel_rfl) ?_)
          | (refine RA.step (L := [true, true, false, false, true, false, false, false]) (i := 2) (is := [3, 5]) (by kernel_rfl) ?_)
          | (refine RA.step (L := [true, true, false, false, true, true, false, false]) (i := 2) (is := [3]) (by kernel_rfl) ?_)
          | (refine RA.step (L := [true, false, false, false, false, false, false, false]) (i := 1) (is := [2, 3, 4]) (by kernel_rfl) ?_)
          | (refine RA.step (L := [true, false, false, false, true, false, false, false]) (i := 1) (is := [2, 3]) (by kernel_rfl) ?_)
          | (refine W.condA (ht := fun hb => ?_) (hf := fun hb => ?_) <;> (try simp at hb) <;> (try (exfalso; omega))))
        all_goals exact Fin.ret (ResL.cons rfl rfl (PSub.of_eq (congrArg (fun n => PV.one (Cell.int .i64 n)) he)) ResL.nil)
      · have e3 := cmp_swap (remZ p q * s) (remZ r s * q)
        have hnew : -t * cmpI (q * remZ r s) (s * remZ p q) = cmpR a b := by
          rw [← he, e1, Int.mul_comm q, Int.mul_comm s, e3, Int.neg_mul_neg]
        generalize quoZ p q = x at *
        generalize hu' : remZ p q = u at *
        generalize quoZ r s = y at *
        generalize hv' : remZ r s = v at *
        repeat' (first
          | ((first | apply U_ | (apply Ug_; exact rfl; exact rfl) | (apply Ugq_; exact rfl; exact rfl)); (first
    | exact QX.Move TYok
    | exact QX.Asg TYok
    | exact QX.Fld TYok
    | exact QX.Ld TYok
    | exact QX.Bin TYok
    | exact QX.Pick TYok
    | exact QX.Un TYok
    | exact QX.Ext TYok
    | (apply Q_calld (d1); exact EvD.auto)
    | (apply Q_calld (d2); exact EvD.auto)
    | (apply Q_calld (k1); exact EvD.auto)); exact rfl)
          | refine SX.Alloc TYok (h := ?_)
          | refine SX.Store TYok (h := ?_)
          | refine SX.Box TYok (h := ?_)
          | apply RG.nil
          | apply Lex.nil
          | apply Then.n
          | apply Then.r
          | apply Then.x
          | apply InBlock.n
          | apply InBlock.r
          | apply InBlock.hit
          | (apply InBlock.miss; exact rfl)
          | apply W.seq
          | apply W.region
          | apply W.block
          | apply W.skip
          | apply W.ret
          | apply W.exit
          | (apply S_isnil TYok; exact rfl; exact rfl; exact rfl; exact Ev.auto; intro bn hnil)
          | (apply RG.gT; exact rfl; exact rfl; (first | assumption | decide))
          | (apply RG.gF; exact rfl; exact rfl; (first | assumption | decide | (rw [ne_eq, Bool.not_eq_true]; assumption) | (rw [ne_eq, Bool.not_eq_false]; assumption)); exact rfl)
          | apply LexS.nil
          | (apply LexS.f; exact rfl; (first | (apply FreshV.alloc TYok; exact rfl; exact rfl; exact rfl; exact rfl) | (apply FreshV.lit TYok; (repeat (first | exact EvR.nil | apply EvR.cons Ev.auto)); exact rfl; exact rfl; exact rfl; exact rfl; exact rfl; exact rfl; exact rfl; exact rfl; exact rfl) | (apply FreshV.box; exact Ev.auto; exact rfl; exact rfl; exact rfl)); exact rfl; exact rfl; exact rfl)
          | (apply LexS.s; exact rfl; exact rfl; (apply StoreV.mk TYok; exact Ev.auto; exact Ev.auto; exact rfl; exact rfl; exact rfl; exact rfl; exact rfl))
          | ((first | apply LexS.u | (apply LexS.g; exact rfl; exact rfl) | (apply LexS.gq; exact rfl; exact rfl)); (repeat (first | (apply NB.cons; exact rfl) | exact NB.nil rfl)); (first | exact QX.Move TYok | exact QX.Asg TYok | exact QX.Fld TYok | exact QX.Ld TYok | exact QX.Bin TYok | exact QX.Pick TYok | exact QX.Un TYok | exact QX.Ext TYok | (apply Q_calld (d1); exact EvD.auto) | (apply Q_calld (d2); exact EvD.auto) | (apply Q_calld (k1); exact EvD.auto)); exact rfl; exact rfl; exact rfl)
          | (refine W.drawS (id := 13) [0, 0, 0, 0, 1, 19, 55, 127] [[6], [11], [8], [14], [5, 74], [6, 75], [7, 76], [8, 77]] [(7, (8, ?_)), (6, (7, ?_)), (5, (6, ?_)), (4, (5, ?_))] [(7, 8), (6, 7), (5, 6), (4, 5)] mixed (by kernel_rfl) rfl ?_; rotate_left 4)
          | (refine W.condA (ht := fun hb => ?_) (hf := fun hb => ?_) <;> (try simp at hb) <;> (try (exfalso; omega))))
        all_goals (refine ⟨⟨q, u, s, v, -t⟩, ⟨oq, ou, os, ov, by show 0 < u; omega, by show 0 < v; omega, by show -t = 1 ∨ -t = -1; omega, hnew⟩, ?_, by show u.toNat < q.toNat; omega⟩; exact Le.auto)
    · have e1 := cmp_quo hq hs h1
      rw [e1] at he
      have hbd : -1 ≤ t * cmpI (quoZ p q) (quoZ r s) ∧ t * cmpI (quoZ p q) (quoZ r s) ≤ 1 := by rcases ht with rfl | rfl <;> omega
      generalize cmpI (quoZ p q) (quoZ r s) = c at *
      generalize quoZ p q = x at *
      generalize remZ p q = u at *
      generalize quoZ r s = y at *
      generalize remZ r s = v at *
      repeat' (first
        | ((first | apply U_ | (apply Ug_; exact rfl; exact rfl) | (apply Ugq_; exact rfl; exact rfl)); (first
    | exact QX.Move TYok
    | exact QX.Asg TYok
    | exact QX.Fld TYok
    | exact QX.Ld TYok
    | exact QX.Bin TYok
    | exact QX.Pick TYok
    | exact QX.Un TYok
    | exact QX.Ext TYok
    | (apply Q_calld (d1); exact EvD.auto)
    | (apply Q_calld (d2); exact EvD.auto)
    | (apply Q_calld (k1); exact EvD.auto)); exact rfl)
        | refine SX.Alloc TYok (h := ?_)
        | refine SX.Store TYok (h := ?_)
        | refine SX.Box TYok (h := ?_)
        | apply RG.nil
        | apply Lex.nil
        | apply Then.n
        | apply Then.r
        | apply Then.x
        | apply InBlock.n
        | apply InBlock.r
        | apply InBlock.hit
        | (apply InBlock.miss; exact rfl)
        | apply W.seq
        | apply W.region
        | apply W.block
        | apply W.skip
        | apply W.ret
        | apply W.exit
        | (apply S_isnil TYok; exact rfl; exact rfl; exact rfl; exact Ev.auto; intro bn hnil)
        | (apply RG.gT; exact rfl; exact rfl; (first | assumption | decide))
        | (apply RG.gF; exact rfl; exact rfl; (first | assumption | decide | (rw [ne_eq, Bool.not_eq_true]; assumption) | (rw [ne_eq, Bool.not_eq_false]; assumption)); exact rfl)
        | (refine W.drawA (id := 13) (L := [false, false, false, false, false, false, false, false]) mixed rfl ?_)
        | exact RAll.nil
        | (refine RAll.cons rfl ?_ ?_)
        | (refine RA.step (L := [false, false, false, false, false, false, false, false]) (i := 0) (is := [1, 2, 3]) (by kernel_rfl) ?_)
        | (refine RA.step (L := [false, false, false, true, false, false, false, false]) (i := 0) (is := [1, 2]) (by kernel_rfl) ?_)
        | (refine RA.step (L := [false, false, true, true, false, false, false, false]) (i := 0) (is := [1]) (by kernel_rfl) ?_)
        | (refine RA.step (L := [false, true, true, true, false, false, false, false]) (i := 0) (is := []) (by kernel_rfl) ?_)
        | (refine RA.step (L := [true, true, true, true, false, false, false, false]) (i := 4) (is := []) (by kernel_rfl) ?_)
        | (refine RA.step (L := [true, true, true, true, true, false, false, false]) (i := 5) (is := []) (by kernel_rfl) ?_)
        | (refine RA.step (L := [true, true, true, true, true, true, false, false]) (i := 6) (is := []) (by kernel_rfl) ?_)
        | (refine RA.step (L := [true, true, true, true, true, true, true, false]) (i := 7) (is := []) (by kernel_rfl) ?_)
        | (refine RA.done (L := [true, true, true, true, true, true, true, true]) (by kernel_rfl) ?_)
        | (refine RA.step (L := [true, false, true, true, false, false, false, false]) (i := 1) (is := [4]) (by kernel_rfl) ?_)
        | (refine RA.step (L := [true, false, true, true, true, false, false, false]) (i := 1) (is := []) (by kernel_rfl) ?_)
        | (refine RA.step (L := [false, true, false, true, false, false, false, false]) (i := 0) (is := [2]) (by kernel_rfl) ?_)
        | (refine RA.step (L := [true, true, false, true, false, false, false, false]) (i := 2) (is := [4]) (by kernel_rfl) ?_)
        | (refine RA.step (L := [true, true, false, true, true, false, false, false]) (i := 2) (is := [5]) (by kernel_rfl) ?_)
        | (refine RA.step (L := [true, true, false, true, true, true, false, false]) (i := 2) (is := []) (by kernel_rfl) ?_)
        | (refine RA.step (L := [true, false, false, true, false, false, false, false]) (i := 1) (is := [2, 4]) (by kernel_rfl) ?_)
        | (refine RA.step (L := [true, false, false, true, true, false, false, false]) (i := 1) (is := [2]) (by kernel_rfl) ?_)
        | (refine RA.step (L := [false, false, true, false, false, false, false, false]) (i := 0) (is := [1, 3]) (by kernel_rfl) ?_)
        | (refine RA.step (L := [false, true, true, false, false, false, false, false]) (i := 0) (is := [3]) (by kernel_rfl) ?_)
        | (refine RA.step (L := [true, true, true, false, false, false, false, false]) (i := 3) (is := [4]) (by kernel_rfl) ?_)
        | (refine RA.step (L := [true, true, true, false, true, false, false, false]) (i := 3) (is := [5]) (by kernel_rfl) ?_)
        | (refine RA.step (L := [true, true, true, false, true, true, false, false]) (i := 3) (is := [6]) (by kernel_rfl) ?_)
        | (refine RA.step (L := [true, true, true, false, true, true, true, false]) (i := 3) (is := []) (by kernel_rfl) ?_)
        | (refine RA.step (L := [true, false, true, false, false, false, false, false]) (i := 1) (is := [3, 4]) (by kernel_rfl) ?_)
        | (refine RA.step (L := [true, false, true, false, true, false, false, false]) (i := 1) (is := [3]) (by kernel_rfl) ?_)
        | (refine RA.step (L := [false, true, false, false, false, false, false, false]) (i := 0) (is := [2, 3]) (by kernel_rfl) ?_)
        | (refine RA.step (L := [true, true, false, false, false, false, false, false]) (i := 2) (is := [3, 4]) (by kernel_rfl) ?_)
        | (refine RA.step (L := [true, true, false, false, true, false, false, false]) (i := 2) (is := [3, 5]) (by kernel_rfl) ?_)
        | (refine RA.step (L := [true, true, false, false, true, true, false, false]) (i := 2) (is := [3]) (by kernel_rfl) ?_)
        | (refine RA.step (L := [true, false, false, false, false, false, false, false]) (i := 1) (is := [2, 3, 4]) (by kernel_rfl) ?_)
        | (refine RA.step (L := [true, false, false, false, true, false, false, false]) (i := 1) (is := [2, 3]) (by kernel_rfl) ?_)
        | (refine W.condA (ht := fun hb => ?_) (hf := fun hb => ?_) <;> (try simp at hb) <;> (try (exfalso; omega))))
      all_goals exact Fin.ret (ResL.cons rfl rfl (PSub.of_eq (congrArg (fun n => PV.one (Cell.int .i64 n)) he)) ResL.nil)
end Go.Proofs.YtipghibmgfhmpaaGreatDoor
