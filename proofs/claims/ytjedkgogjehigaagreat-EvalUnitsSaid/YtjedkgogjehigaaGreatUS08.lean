/-
  Part 8 of what the proof rests on.
-/
import Derived.Test.YtjedkgogjehigaaGreatUS07
import Derived.Test.YtjedkgogjehigaaGreatUS05
import Derived.Test.YtjedkgogjehigaaGreatUS06
section
set_option linter.unusedVariables false
set_option linter.unusedSimpArgs false
set_option maxHeartbeats 8000000
set_option linter.unusedSectionVars false
namespace Go.Proofs.YtjedkgogjehigaaGreat
open Lf Go
attribute [local irreducible] PureOp EffOp Ev RG W Then InBlock Lf.Fin nth App InitE Pick SubE EvL EvD EvP EvR ResL Lf.Lex SubR SubBR RA RAll EvC FinO FinM ResM ResD FinS val pw digs trimL
theorem cmp_cases (x y : Int) : (cmpI x y = -1 ∧ x < y) ∨ (cmpI x y = 0 ∧ x = y) ∨ (cmpI x y = 1 ∧ y < x) := by
  unfold cmpI
  split
  · exact .inl ⟨rfl, ‹_›⟩
  · split
    · exact .inr (.inr ⟨rfl, ‹_›⟩)
    · exact .inr (.inl ⟨rfl, by omega⟩)
theorem cmp_swap (x y : Int) : cmpI y x = -cmpI x y := by
  have := cmp_cases x y
  have := cmp_cases y x
  omega
def cmpR (a b : Rat) : Int := cmpI (a.num * b.den) (b.num * a.den)
theorem quo_ltQ {p q r s : Int} (hq : 0 < q) (hs : 0 < s) (h : quoZ p q < quoZ r s) : p * s < r * q := by
  have h1 := quo_rem p q
  have h2 := quo_rem r s
  have h3 := (rem_rng (x := p) (y := q) (by omega)).1 hq
  have h4 := (rem_rng (x := r) (y := s) (by omega)).1 hs
  generalize quoZ p q = x at *
  generalize remZ p q = u at *
  generalize quoZ r s = y at *
  generalize remZ r s = v at *
  have a1 := Int.mul_nonneg (Int.mul_nonneg (show 0 ≤ q by omega) (show 0 ≤ s by omega)) (show 0 ≤ y - x - 1 by omega)
  have a2 := Int.mul_nonneg (show 0 ≤ q by omega) h4.1
  have a3 := Int.mul_nonneg (show 0 ≤ q - 1 - u by omega) (show 0 ≤ s by omega)
  have e : r * q - p * s = q * s * (y - x - 1) + q * v + s + (q - 1 - u) * s := by rw [h1, h2]; grind
  omega
theorem cmp_quo {p q r s : Int} (hq : 0 < q) (hs : 0 < s) (h : quoZ p q ≠ quoZ r s) : cmpI (p * s) (r * q) = cmpI (quoZ p q) (quoZ r s) := by
  have c := cmp_cases (quoZ p q) (quoZ r s)
  have c' := cmp_cases (p * s) (r * q)
  rcases Int.lt_or_gt_of_ne h with h1 | h1
  · have := quo_ltQ hq hs h1; omega
  · have := quo_ltQ hs hq h1; omega
theorem cmp_same {p q r s : Int} (h : quoZ p q = quoZ r s) : cmpI (p * s) (r * q) = cmpI (remZ p q * s) (remZ r s * q) := by
  have h1 := quo_rem p q
  have h2 := quo_rem r s
  rw [h] at h1
  generalize quoZ r s = y at *
  generalize remZ p q = u at *
  generalize remZ r s = v at *
  have e : p * s - r * q = u * s - v * q := by rw [h1, h2]; grind
  have c := cmp_cases (p * s) (r * q)
  have c' := cmp_cases (u * s) (v * q)
  omega
theorem cmp_end {u s v q : Int} (hq : 0 < q) (hs : 0 < s) (hu : 0 ≤ u) (hv : 0 ≤ v) (h : u = 0 ∨ v = 0) : cmpI (u * s) (v * q) = sgn u - sgn v := by
  have cu := sgn_cases u
  have cv := sgn_cases v
  have c := cmp_cases (u * s) (v * q)
  rcases h with rfl | rfl
  · rw [Int.zero_mul] at *
    by_cases h0 : v = 0
    · subst h0; rw [Int.zero_mul] at *; omega
    · have := Int.mul_pos (show 0 < v by omega) hq; omega
  · rw [Int.zero_mul] at *
    by_cases h0 : u = 0
    · subst h0; rw [Int.zero_mul] at *; omega
    · have := Int.mul_pos (show 0 < u by omega) hs; omega
structure CS where
  p : Int
  q : Int
  r : Int
  s : Int
  t : Int
structure CI (T : Int) (z : CS) : Prop where
  op : okZ z.p
  oq : okZ z.q
  or : okZ z.r
  os : okZ z.s
  hq : 0 < z.q
  hs : 0 < z.s
  ht : z.t = 1 ∨ z.t = -1
  eq : z.t * cmpI (z.p * z.s) (z.r * z.q) = T
abbrev bz (x : Int) : Blk := ⟨38, 2, [[.int .i64 (sgn x), .sl ((digs (mag x)).map Lf.encI)]]⟩
attribute [local irreducible] sgn mag gcdZ quoZ remZ fullZ fullE
theorem fcmp_ok (a b : Rat) (ha : okF a) (hB : okF b) : ACalls Tryz.prog 69 [zF a, zF b] (.pv (cI (cmpR a b))) := by
  have r1 := fright_yes a ha
  have r2 := fright_yes b hB
  have da := den_pos a
  have db := den_pos b
  refine ACalls.of_W (qs := [cI (cmpR a b)]) [4] 78 Tryz.func69 (by kernel_rfl) rfl rfl rfl fun G => ?_
  refine W.initA (hw := ?_)
  repeat' (first | ((first | apply U_ | (apply Ug_; exact rfl; exact rfl) | (apply Ugq_; exact rfl; exact rfl)); (first | exact QX.B TYok | exact QX.Ext TYok | exact QCd (r1) | exact QCd (r2)); exact rfl) | refine SX.Alloc TYok (h := ?_) | refine SX.Store TYok (h := ?_) | refine SX.Box TYok (h := ?_) | refine SC ?_ | (apply S_isnil TYok; exact rfl; exact rfl; exact rfl; exact Ev.auto; intro bn hnil) | refine SG ?_ | apply LexS.nil | (apply LexS.f; exact rfl; (first | (apply FreshV.alloc TYok; exact rfl; exact rfl; exact rfl; exact rfl) | (apply FreshV.lit TYok; (repeat (first | exact EvR.nil | apply EvR.cons Ev.auto)); exact rfl; exact rfl; exact rfl; exact rfl; exact rfl; exact rfl; exact rfl; exact rfl; exact rfl) | (apply FreshV.box; exact Ev.auto; exact rfl; exact rfl; exact rfl)); exact rfl; exact rfl; exact rfl) | (apply LexS.s; exact rfl; exact rfl; (apply StoreV.mk TYok; exact Ev.auto; exact Ev.auto; exact rfl; exact rfl; exact rfl; exact rfl; exact rfl)) | ((first | apply LexS.u | (apply LexS.g; exact rfl; exact rfl) | (apply LexS.gq; exact rfl; exact rfl)); (repeat (first | (apply NB.cons; exact rfl) | exact NB.nil rfl)); (first | exact QX.B TYok | exact QX.Ext TYok | exact QCd (r1) | exact QCd (r2)); exact rfl; exact rfl; exact rfl) | (refine W.drawS (id := 3) [0, 1, 0, 4, 0, 16, 0, 64, 0, 0, 0, 0, 3843, 7951, 16191, 32767] [[2], [25], [2], [27], [3], [29], [3], [31], [], [], [], [], [5, 26], [6, 28], [7, 30], [8, 32]] [(15, (8, ?_)), (14, (7, ?_)), (13, (6, ?_)), (12, (5, ?_)), (11, (8, ?_)), (10, (7, ?_)), (9, (6, ?_)), (8, (5, ?_))] [(15, 8), (14, 7), (13, 6), (12, 5), (11, 8), (10, 7), (9, 6), (8, 5)] mixed (by kernel_rfl) rfl ?_; rotate_left 8) | (refine W.drawA (id := 13) (L := [false, false, false, false, false, false, false, false]) mixed rfl ?_) | exact RAll.nil | (refine RAll.cons rfl ?_ ?_) | (refine RA.step (L := [false, false, false, false, false, false, false, false]) (i := 0) (is := [1, 2, 3]) (by kernel_rfl) ?_) | (refine RA.step (L := [false, false, false, true, false, false, false, false]) (i := 0) (is := [1, 2]) (by kernel_rfl) ?_) | (refine RA.step (L := [false, false, true, true, false, false, false, false]) (i := 0) (is := [1]) (by kernel_rfl) ?_) | (refine RA.step (L := [false, true, true, true, false, false, false, false]) (i := 0) (is := []) (by kernel_rfl) ?_) | (refine RA.step (L := [true, true, true, true, false, false, false, false]) (i := 4) (is := []) (by kernel_rfl) ?_) | (refine RA.step (L := [true, true, true, true, true, false, false, false]) (i := 5) (is := []) (by kernel_rfl) ?_) | (refine RA.step (L := [true, true, true, true, true, true, false, false]) (i := 6) (is := []) (by kernel_rfl) ?_) | (refine RA.step (L := [true, true, true, true, true, true, true, false]) (i := 7) (is := []) (by kernel_rfl) ?_) | (refine RA.done (L := [true, true, true, true, true, true, true, true]) (by kernel_rfl) ?_) | (refine RA.step (L := [true, false, true, true, false, false, false, false]) (i := 1) (is := [4]) (by kernel_rfl) ?_) | (refine RA.step (L := [true, false, true, true, true, false, false, false]) (i := 1) (is := []) (by kernel_rfl) ?_) | (refine RA.step (L := [false, true, false, true, false, false, false, false]) (i := 0) (is := [2]) (by kernel_rfl) ?_) | (refine RA.step (L := [true, true, false, true, false, false, false, false]) (i := 2) (is := [4]) (by kernel_rfl) ?_) | (refine RA.step (L := [true, true, false, true, true, false, false, false]) (i := 2) (is := [5]) (by kernel_rfl) ?_) | (refine RA.step (L := [true, true, false, true, true, true, false, false]) (i := 2) (is := []) (by kernel_rfl) ?_) | (refine RA.step (L := [true, false, false, true, false, false, false, false]) (i := 1) (is := [2, 4]) (by kernel_rfl) ?_) | (refine RA.step (L := [true, false, false, true, true, false, false, false]) (i := 1) (is := [2]) (by kernel_rfl) ?_) | (refine RA.step (L := [false, false, true, false, false, false, false, false]) (i := 0) (is := [1, 3]) (by kernel_rfl) ?_) | (refine RA.step (L := [false, true, true, false, false, false, false, false]) (i := 0) (is := [3]) (by kernel_rfl) ?_) | (refine RA.step (L := [true, true, true, false, false, false, false, false]) (i := 3) (is := [4]) (by kernel_rfl) ?_) | (refine RA.step (L := [true, true, true, false, true, false, false, false]) (i := 3) (is := [5]) (by kernel_rfl) ?_) | (refine RA.step (L := [true, true, true, false, true, true, false, false]) (i := 3) (is := [6]) (by kernel_rfl) ?_) | (refine RA.step (L := [true, true, true, false, true, true, true, false]) (i := 3) (is := []) (by kernel_rfl) ?_) | (refine RA.step (L := [true, false, true, false, false, false, false, false]) (i := 1) (is := [3, 4]) (by kernel_rfl) ?_) | (refine RA.step (L := [true, false, true, false, true, false, false, false]) (i := 1) (is := [3]) (by kernel_rfl) ?_) | (refine RA.step (L := [false, true, false, false, false, false, false, false]) (i := 0) (is := [2, 3]) (by kernel_rfl) ?_) | (refine RA.step (L := [true, true, false, false, false, false, false, false]) (i := 2) (is := [3, 4]) (by kernel_rfl) ?_) | (refine RA.step (L := [true, true, false, false, true, false, false, false]) (i := 2) (is := [3, 5]) (by kernel_rfl) ?_) | (refine RA.step (L := [true, true, false, false, true, true, false, false]) (i := 2) (is := [3]) (by kernel_rfl) ?_) | (refine RA.step (L := [true, false, false, false, false, false, false, false]) (i := 1) (is := [2, 3, 4]) (by kernel_rfl) ?_) | (refine RA.step (L := [true, false, false, false, true, false, false, false]) (i := 1) (is := [2, 3]) (by kernel_rfl) ?_) | (refine W.condA (ht := fun hb => ?_) (hf := fun hb => ?_) <;> (try simp at hb) <;> (try (exfalso; omega))))
  apply W.loopP (σ := CS) 78 [] (CI (cmpR a b)) (fun z => [(9, vI z.t), (5, (True, .addr 5 0 0)), (6, (True, .addr 6 0 0)), (7, (True, .addr 7 0 0)), (8, (True, .addr 8 0 0))]) (fun z => [(5, bz z.p), (6, bz z.q), (7, bz z.r), (8, bz z.s)]) (fun z => z.q.toNat) (⟨a.num, a.den, b.num, b.den, 1⟩)
  case hp => repeat (first | exact Pick.nil | apply Pick.cons rfl)
  case h0 =>
    refine ⟨⟨ha.1, ha.2, hB.1, hB.2, da, db, .inl rfl, by rw [Int.one_mul]; rfl⟩, ?_⟩
    exact Le.auto
  case round =>
    rintro ⟨p, q, r, s, t⟩ ⟨op, oq, or', os, hq, hs, ht, he⟩
    simp only at op oq or' os hq hs ht he
    have d1 := divZ_ok p q op oq (by omega)
    have d2 := divZ_ok r s or' os (by omega)
    have k1 := cmpZ_ok (quoZ p q) (quoZ r s) (okZ_quo op (by omega)) (okZ_quo or' (by omega))
    have hu := (rem_rng (x := p) (y := q) (by omega)).1 hq
    have hv := (rem_rng (x := r) (y := s) (by omega)).1 hs
    have ou := okZ_rem (x := p) oq (by omega)
    have ov := okZ_rem (x := r) os (by omega)
    have cu := sgn_cases (remZ p q)
    have cv := sgn_cases (remZ r s)
    have cc := cmp_cases (quoZ p q) (quoZ r s)
    show Lf.W _ _ _ _ (mkSt 78 [(9, vI t), (5, (True, .addr 5 0 0)), (6, (True, .addr 6 0 0)), (7, (True, .addr 7 0 0)), (8, (True, .addr 8 0 0))] _ [(5, bz p), (6, bz q), (7, bz r), (8, bz s)])
    apply W.norm (by repeat (first | exact App.nil | apply App.cons))
    by_cases h1 : quoZ p q = quoZ r s
    · have e1 := cmp_same h1
      have kc : cmpI (quoZ p q) (quoZ r s) = 0 := by omega
      rw [kc] at k1
      by_cases h2 : remZ p q = 0 ∨ remZ r s = 0
      · have e2 := cmp_end hq hs hu.1 hv.1 h2
        rw [e1, e2] at he
        have hbd : -1 ≤ t * (sgn (remZ p q) - sgn (remZ r s)) ∧ t * (sgn (remZ p q) - sgn (remZ r s)) ≤ 1 := by rcases ht with rfl | rfl <;> omega
        generalize quoZ p q = x at *
        generalize remZ p q = u at *
        generalize quoZ r s = y at *
        generalize remZ r s = v at *
        repeat' (first | ((first | apply U_ | (apply Ug_; exact rfl; exact rfl) | (apply Ugq_; exact rfl; exact rfl)); (first | exact QX.B TYok | exact QX.Ext TYok | exact QCd (d1) | exact QCd (d2) | exact QCd (k1)); exact rfl) | refine SX.Alloc TYok (h := ?_) | refine SX.Store TYok (h := ?_) | refine SX.Box TYok (h := ?_) | refine SC ?_ | (apply S_isnil TYok; exact rfl; exact rfl; exact rfl; exact Ev.auto; intro bn hnil) | refine SG ?_ | (refine W.drawA (id := 13) (L := [false, false, false, false, false, false, false, false]) mixed rfl ?_) | exact RAll.nil | (refine RAll.cons rfl ?_ ?_) | (refine RA.step (L := [false, false, false, false, false, false, false, false]) (i := 0) (is := [1, 2, 3]) (by kernel_rfl) ?_) | (refine RA.step (L := [false, false, false, true, false, false, false, false]) (i := 0) (is := [1, 2]) (by kernel_rfl) ?_) | (refine RA.step (L := [false, false, true, true, false, false, false, false]) (i := 0) (is := [1]) (by kernel_rfl) ?_) | (refine RA.step (L := [false, true, true, true, false, false, false, false]) (i := 0) (is := []) (by kernel_rfl) ?_) | (refine RA.step (L := [true, true, true, true, false, false, false, false]) (i := 4) (is := []) (by kernel_rfl) ?_) | (refine RA.step (L := [true, true, true, true, true, false, false, false]) (i := 5) (is := []) (by kernel_rfl) ?_) | (refine RA.step (L := [true, true, true, true, true, true, false, false]) (i := 6) (is := []) (by kernel_rfl) ?_) | (refine RA.step (L := [true, true, true, true, true, true, true, false]) (i := 7) (is := []) (by kernel_rfl) ?_) | (refine RA.done (L := [true, true, true, true, true, true, true, true]) (by kernel_rfl) ?_) | (refine RA.step (L := [true, false, true, true, false, false, false, false]) (i := 1) (is := [4]) (by kernel_rfl) ?_) | (refine RA.step (L := [true, false, true, true, true, false, false, false]) (i := 1) (is := []) (by kernel_rfl) ?_) | (refine RA.step (L := [false, true, false, true, false, false, false, false]) (i := 0) (is := [2]) (by kernel_rfl) ?_) | (refine RA.step (L := [true, true, false, true, false, false, false, false]) (i := 2) (is := [4]) (by kernel_rfl) ?_) | (refine RA.step (L := [true, true, false, true, true, false, false, false]) (i := 2) (is := [5]) (by kernel_rfl) ?_) | (refine RA.step (L := [true, true, false, true, true, true, false, false]) (i := 2) (is := []) (by kernel_rfl) ?_) | (refine RA.step (L := [true, false, false, true, false, false, false, false]) (i := 1) (is := [2, 4]) (by kernel_rfl) ?_) | (refine RA.step (L := [true, false, false, true, true, false, false, false]) (i := 1) (is := [2]) (by kernel_rfl) ?_) | (refine RA.step (L := [false, false, true, false, false, false, false, false]) (i := 0) (is := [1, 3]) (by kernel_rfl) ?_) | (refine RA.step (L := [false, true, true, false, false, false, false, false]) (i := 0) (is := [3]) (by kernel_rfl) ?_) | (refine RA.step (L := [true, true, true, false, false, false, false, false]) (i := 3) (is := [4]) (by kernel_rfl) ?_) | (refine RA.step (L := [true, true, true, false, true, false, false, false]) (i := 3) (is := [5]) (by kernel_rfl) ?_) | (refine RA.step (L := [true, true, true, false, true, true, false, false]) (i := 3) (is := [6]) (by kernel_rfl) ?_) | (refine RA.step (L := [true, true, true, false, true, true, true, false]) (i := 3) (is := []) (by kernel_rfl) ?_) | (refine RA.step (L := [true, false, true, false, false, false, false, false]) (i := 1) (is := [3, 4]) (by kernel_rfl) ?_) | (refine RA.step (L := [true, false, true, false, true, false, false, false]) (i := 1) (is := [3]) (by kernel_rfl) ?_) | (refine RA.step (L := [false, true, false, false, false, false, false, false]) (i := 0) (is := [2, 3]) (by kernel_rfl) ?_) | (refine RA.step (L := [true, true, false, false, false, false, false, false]) (i := 2) (is := [3, 4]) (by kernel_rfl) ?_) | (refine RA.step (L := [true, true, false, false, true, false, false, false]) (i := 2) (is := [3, 5]) (by kernel_rfl) ?_) | (refine RA.step (L := [true, true, false, false, true, true, false, false]) (i := 2) (is := [3]) (by kernel_rfl) ?_) | (refine RA.step (L := [true, false, false, false, false, false, false, false]) (i := 1) (is := [2, 3, 4]) (by kernel_rfl) ?_) | (refine RA.step (L := [true, false, false, false, true, false, false, false]) (i := 1) (is := [2, 3]) (by kernel_rfl) ?_) | (refine W.condA (ht := fun hb => ?_) (hf := fun hb => ?_) <;> (try simp at hb) <;> (try (exfalso; omega))))
        all_goals exact Fin.ret (ResL.cons rfl rfl (PSub.of_eq (congrArg (fun n => PV.one (Cell.int .i64 n)) he)) ResL.nil)
      · have e3 := cmp_swap (remZ p q * s) (remZ r s * q)
        have hnew : -t * cmpI (q * remZ r s) (s * remZ p q) = cmpR a b := by
          rw [← he, e1, Int.mul_comm q, Int.mul_comm s, e3, Int.neg_mul_neg]
        generalize quoZ p q = x at *
        generalize hu' : remZ p q = u at *
        generalize quoZ r s = y at *
        generalize hv' : remZ r s = v at *
        repeat' (first | ((first | apply U_ | (apply Ug_; exact rfl; exact rfl) | (apply Ugq_; exact rfl; exact rfl)); (first | exact QX.B TYok | exact QX.Ext TYok | exact QCd (d1) | exact QCd (d2) | exact QCd (k1)); exact rfl) | refine SX.Alloc TYok (h := ?_) | refine SX.Store TYok (h := ?_) | refine SX.Box TYok (h := ?_) | refine SC ?_ | (apply S_isnil TYok; exact rfl; exact rfl; exact rfl; exact Ev.auto; intro bn hnil) | refine SG ?_ | apply LexS.nil | (apply LexS.f; exact rfl; (first | (apply FreshV.alloc TYok; exact rfl; exact rfl; exact rfl; exact rfl) | (apply FreshV.lit TYok; (repeat (first | exact EvR.nil | apply EvR.cons Ev.auto)); exact rfl; exact rfl; exact rfl; exact rfl; exact rfl; exact rfl; exact rfl; exact rfl; exact rfl) | (apply FreshV.box; exact Ev.auto; exact rfl; exact rfl; exact rfl)); exact rfl; exact rfl; exact rfl) | (apply LexS.s; exact rfl; exact rfl; (apply StoreV.mk TYok; exact Ev.auto; exact Ev.auto; exact rfl; exact rfl; exact rfl; exact rfl; exact rfl)) | ((first | apply LexS.u | (apply LexS.g; exact rfl; exact rfl) | (apply LexS.gq; exact rfl; exact rfl)); (repeat (first | (apply NB.cons; exact rfl) | exact NB.nil rfl)); (first | exact QX.B TYok | exact QX.Ext TYok | exact QCd (d1) | exact QCd (d2) | exact QCd (k1)); exact rfl; exact rfl; exact rfl) | (refine W.drawS (id := 13) [0, 0, 0, 0, 1, 19, 55, 127] [[6], [11], [8], [14], [5, 74], [6, 75], [7, 76], [8, 77]] [(7, (8, ?_)), (6, (7, ?_)), (5, (6, ?_)), (4, (5, ?_))] [(7, 8), (6, 7), (5, 6), (4, 5)] mixed (by kernel_rfl) rfl ?_; rotate_left 4) | (refine W.condA (ht := fun hb => ?_) (hf := fun hb => ?_) <;> (try simp at hb) <;> (try (exfalso; omega))))
        all_goals (refine ⟨⟨q, u, s, v, -t⟩, ⟨oq, ou, os, ov, by show 0 < u; omega, by show 0 < v; omega, by show -t = 1 ∨ -t = -1; omega, hnew⟩, ?_, by show u.toNat < q.toNat; omega⟩; exact Le.auto)
    · have e1 := cmp_quo hq hs h1
      rw [e1] at he
      have hbd : -1 ≤ t * cmpI (quoZ p q) (quoZ r s) ∧ t * cmpI (quoZ p q) (quoZ r s) ≤ 1 := by rcases ht with rfl | rfl <;> omega
      generalize cmpI (quoZ p q) (quoZ r s) = c at *
      generalize quoZ p q = x at *
      generalize remZ p q = u at *
      generalize quoZ r s = y at *
      generalize remZ r s = v at *
      repeat' (first | ((first | apply U_ | (apply Ug_; exact rfl; exact rfl) | (apply Ugq_; exact rfl; exact rfl)); (first | exact QX.B TYok | exact QX.Ext TYok | exact QCd (d1) | exact QCd (d2) | exact QCd (k1)); exact rfl) | refine SX.Alloc TYok (h := ?_) | refine SX.Store TYok (h := ?_) | refine SX.Box TYok (h := ?_) | refine SC ?_ | (apply S_isnil TYok; exact rfl; exact rfl; exact rfl; exact Ev.auto; intro bn hnil) | refine SG ?_ | (refine W.drawA (id := 13) (L := [false, false, false, false, false, false, false, false]) mixed rfl ?_) | exact RAll.nil | (refine RAll.cons rfl ?_ ?_) | (refine RA.step (L := [false, false, false, false, false, false, false, false]) (i := 0) (is := [1, 2, 3]) (by kernel_rfl) ?_) | (refine RA.step (L := [false, false, false, true, false, false, false, false]) (i := 0) (is := [1, 2]) (by kernel_rfl) ?_) | (refine RA.step (L := [false, false, true, true, false, false, false, false]) (i := 0) (is := [1]) (by kernel_rfl) ?_) | (refine RA.step (L := [false, true, true, true, false, false, false, false]) (i := 0) (is := []) (by kernel_rfl) ?_) | (refine RA.step (L := [true, true, true, true, false, false, false, false]) (i := 4) (is := []) (by kernel_rfl) ?_) | (refine RA.step (L := [true, true, true, true, true, false, false, false]) (i := 5) (is := []) (by kernel_rfl) ?_) | (refine RA.step (L := [true, true, true, true, true, true, false, false]) (i := 6) (is := []) (by kernel_rfl) ?_) | (refine RA.step (L := [true, true, true, true, true, true, true, false]) (i := 7) (is := []) (by kernel_rfl) ?_) | (refine RA.done (L := [true, true, true, true, true, true, true, true]) (by kernel_rfl) ?_) | (refine RA.step (L := [true, false, true, true, false, false, false, false]) (i := 1) (is := [4]) (by kernel_rfl) ?_) | (refine RA.step (L := [true, false, true, true, true, false, false, false]) (i := 1) (is := []) (by kernel_rfl) ?_) | (refine RA.step (L := [false, true, false, true, false, false, false, false]) (i := 0) (is := [2]) (by kernel_rfl) ?_) | (refine RA.step (L := [true, true, false, true, false, false, false, false]) (i := 2) (is := [4]) (by kernel_rfl) ?_) | (refine RA.step (L := [true, true, false, true, true, false, false, false]) (i := 2) (is := [5]) (by kernel_rfl) ?_) | (refine RA.step (L := [true, true, false, true, true, true, false, false]) (i := 2) (is := []) (by kernel_rfl) ?_) | (refine RA.step (L := [true, false, false, true, false, false, false, false]) (i := 1) (is := [2, 4]) (by kernel_rfl) ?_) | (refine RA.step (L := [true, false, false, true, true, false, false, false]) (i := 1) (is := [2]) (by kernel_rfl) ?_) | (refine RA.step (L := [false, false, true, false, false, false, false, false]) (i := 0) (is := [1, 3]) (by kernel_rfl) ?_) | (refine RA.step (L := [false, true, true, false, false, false, false, false]) (i := 0) (is := [3]) (by kernel_rfl) ?_) | (refine RA.step (L := [true, true, true, false, false, false, false, false]) (i := 3) (is := [4]) (by kernel_rfl) ?_) | (refine RA.step (L := [true, true, true, false, true, false, false, false]) (i := 3) (is := [5]) (by kernel_rfl) ?_) | (refine RA.step (L := [true, true, true, false, true, true, false, false]) (i := 3) (is := [6]) (by kernel_rfl) ?_) | (refine RA.step (L := [true, true, true, false, true, true, true, false]) (i := 3) (is := []) (by kernel_rfl) ?_) | (refine RA.step (L := [true, false, true, false, false, false, false, false]) (i := 1) (is := [3, 4]) (by kernel_rfl) ?_) | (refine RA.step (L := [true, false, true, false, true, false, false, false]) (i := 1) (is := [3]) (by kernel_rfl) ?_) | (refine RA.step (L := [false, true, false, false, false, false, false, false]) (i := 0) (is := [2, 3]) (by kernel_rfl) ?_) | (refine RA.step (L := [true, true, false, false, false, false, false, false]) (i := 2) (is := [3, 4]) (by kernel_rfl) ?_) | (refine RA.step (L := [true, true, false, false, true, false, false, false]) (i := 2) (is := [3, 5]) (by kernel_rfl) ?_) | (refine RA.step (L := [true, true, false, false, true, true, false, false]) (i := 2) (is := [3]) (by kernel_rfl) ?_) | (refine RA.step (L := [true, false, false, false, false, false, false, false]) (i := 1) (is := [2, 3, 4]) (by kernel_rfl) ?_) | (refine RA.step (L := [true, false, false, false, true, false, false, false]) (i := 1) (is := [2, 3]) (by kernel_rfl) ?_) | (refine W.condA (ht := fun hb => ?_) (hf := fun hb => ?_) <;> (try simp at hb) <;> (try (exfalso; omega))))
      all_goals exact Fin.ret (ResL.cons rfl rfl (PSub.of_eq (congrArg (fun n => PV.one (Cell.int .i64 n)) he)) ResL.nil)
end Go.Proofs.YtjedkgogjehigaaGreat
end
section
set_option linter.unusedVariables false
set_option linter.unusedSimpArgs false
set_option maxHeartbeats 8000000
set_option linter.unusedSectionVars false
namespace Go.Proofs.YtjedkgogjehigaaGreat
open Lf Go
attribute [local irreducible] PureOp EffOp Ev RG W Then InBlock Lf.Fin nth App InitE Pick SubE EvL EvD EvP EvR ResL Lf.Lex SubR SubBR RA RAll EvC FinO FinM ResM ResD FinS val pw digs trimL
section
theorem sameBig_ok (s s' : Int) (a b : List Int) (hl : a.length ≤ 1000000) (hl' : b.length ≤ 1000000) : ACalls Tryz.prog 28 [aB s a, aB s' b] (.pv (cB (decide (s = s') && decide (a = b)))) := by
  by_cases h0 : s = s' ∧ a.length = b.length
  case neg =>
    have e : (decide (s = s') && decide (a = b)) = false := by
      rw [Bool.and_eq_false_iff, decide_eq_false_iff_not, decide_eq_false_iff_not]
      by_cases hs : s = s'
      · exact .inr fun e => h0 ⟨hs, by rw [e]⟩
      · exact .inl hs
    rw [e]
    refine ACalls.of_W (qs := [cB false]) [4] 38 Tryz.func28 (by kernel_rfl) rfl rfl rfl fun G => ?_
    refine W.initA (hw := ?_)
    repeat' (first | (exfalso; omega) | ((first | apply U_ | (apply Ug_; exact rfl; exact rfl) | (apply Ugq_; exact rfl; exact rfl) | apply Lex.u | (apply Lex.g; exact rfl; exact rfl) | (apply Lex.gq; exact rfl; exact rfl)); (first | exact QX.B TYok | exact QX.Len TYok | exact QX.Idx TYok); exact rfl) | refine SX.Box TYok (h := ?_) | refine SC ?_ | refine SG ?_ | (apply W.draw2 (id := 6) [0, 1, 0, 7, 15, 0, 32, 0, 224, 480, 1023] [[2], [27], [5], [28, 29], [30], [3], [32], [5], [33, 34], [35], [31, 36]] 11 [(27, 4), (28, 134217728), (29, 32), (30, 805306368), (31, 1073741824), (32, 8), (33, 4294967296), (34, 32), (35, 25769803776), (36, 34359738368), (37, 70866960384)] mixed (by kernel_rfl) rfl rfl) | (refine W.condA (ht := fun hb => ?_) (hf := fun hb => ?_) <;> (try simp at hb) <;> (try (exfalso; omega))))
    exact Fin.ret ResL.auto
  obtain ⟨rfl, hab⟩ := h0
  rw [decide_eq_true rfl, Bool.true_and]
  refine ACalls.of_W (qs := [cB (decide (a = b))]) [4] 38 Tryz.func28 (by kernel_rfl) rfl rfl rfl fun G => ?_
  refine W.initA (hw := ?_)
  repeat' (first | ((first | apply U_ | (apply Ug_; exact rfl; exact rfl) | (apply Ugq_; exact rfl; exact rfl) | apply Lex.u | (apply Lex.g; exact rfl; exact rfl) | (apply Lex.gq; exact rfl; exact rfl)); (first | exact QX.B TYok | exact QX.Len TYok | exact QX.Idx TYok); exact rfl) | refine SX.Box TYok (h := ?_) | refine SC ?_ | refine SG ?_ | (apply W.draw2 (id := 6) [0, 1, 0, 7, 15, 0, 32, 0, 224, 480, 1023] [[2], [27], [5], [28, 29], [30], [3], [32], [5], [33, 34], [35], [31, 36]] 11 [(27, 4), (28, 134217728), (29, 32), (30, 805306368), (31, 1073741824), (32, 8), (33, 4294967296), (34, 32), (35, 25769803776), (36, 34359738368), (37, 70866960384)] mixed (by kernel_rfl) rfl rfl) | (refine W.condA (ht := fun hb => ?_) (hf := fun hb => ?_) <;> (try simp at hb) <;> (try (exfalso; omega))))
  apply W.loopP (σ := Nat) 38 [2, 3] (fun k => k ≤ a.length ∧ a.take k = b.take k) (fun k => [(5, vI k)]) (fun _ => [(2, ⟨38, 2, [[.int .i64 s, .sl (a.map Lf.encI)]]⟩), (3, ⟨38, 2, [[.int .i64 s, .sl (b.map Lf.encI)]]⟩)]) (fun k => a.length - k) (0)
  case hp => repeat (first | exact Pick.nil | apply Pick.cons rfl)
  case h0 =>
    refine ⟨by simp, ?_⟩
    exact Le.auto
  case round =>
    rintro k ⟨g1, g2⟩
    apply W.norm (by repeat (first | exact App.nil | apply App.cons))
    repeat' (first | ((first | apply U_ | (apply Ug_; exact rfl; exact rfl) | (apply Ugq_; exact rfl; exact rfl) | apply Lex.u | (apply Lex.g; exact rfl; exact rfl) | (apply Lex.gq; exact rfl; exact rfl)); (first | exact QX.B TYok | exact QX.Len TYok | exact QX.Idx TYok); exact rfl) | refine SX.Box TYok (h := ?_) | refine SC ?_ | refine SG ?_ | (apply W.draw2 (id := 6) [0, 1, 0, 7, 15, 0, 32, 0, 224, 480, 1023] [[2], [27], [5], [28, 29], [30], [3], [32], [5], [33, 34], [35], [31, 36]] 11 [(27, 4), (28, 134217728), (29, 32), (30, 805306368), (31, 1073741824), (32, 8), (33, 4294967296), (34, 32), (35, 25769803776), (36, 34359738368), (37, 70866960384)] mixed (by kernel_rfl) rfl rfl) | (refine W.condA (ht := fun hb => ?_) (hf := fun hb => ?_) <;> (try simp at hb) <;> (try (exfalso; omega))))
    · rw [decide_eq_false (fun e => by subst e; omega)]
      exact Fin.ret ResL.auto
    · refine ⟨k + 1, ⟨by omega, ?_⟩, ?_, by omega⟩
      · rw [take_nth (by omega), take_nth (by omega), g2, hb]
      · exact Le.auto
    · obtain rfl : k = a.length := by omega
      rw [List.take_length, hab, List.take_length] at g2
      rw [decide_eq_true g2]
      exact Fin.ret ResL.auto
theorem sameBigZ_ok (x y : Int) (hx : okZ x) (hy : okZ y) : ACalls Tryz.prog 28 [zB x, zB y] (.pv (cB (decide (x = y)))) := by
  have h := sameBig_ok (sgn x) (sgn y) (digs (mag x)) (digs (mag y)) (by have := num_len hx; omega) (by have := num_len hy; omega)
  rw [show (decide (sgn x = sgn y) && decide (digs (mag x) = digs (mag y))) = decide (x = y) by
    rw [Bool.eq_iff_iff, Bool.and_eq_true, decide_eq_true_iff, decide_eq_true_iff, decide_eq_true_iff]
    exact ⟨fun h => num_inj h.1 h.2, fun h => by rw [h]; exact ⟨rfl, rfl⟩⟩] at h
  exact h
theorem same_frac (a b : Rat) : (decide (a.num = b.num) && decide ((a.den : Int) = b.den)) = decide (a = b) := by
  rw [← Bool.decide_and]
  exact decide_eq_decide.2 ⟨fun h => Rat.ext h.1 (by omega), fun h => by subst h; exact ⟨rfl, rfl⟩⟩
attribute [local irreducible] sgn mag gcdZ quoZ remZ fullZ fullE
theorem same_ok (a b : Rat) (ha : okF a) (hB : okF b) : ACalls Tryz.prog 10 [zF a, zF b] (.pv (cB (decide (a = b)))) := by
  have s1 := sameBigZ_ok a.num b.num ha.1 hB.1
  have s2 := sameBigZ_ok a.den b.den ha.2 hB.2
  rw [← same_frac]
  refine ACalls.of_W (qs := [cB (decide (a.num = b.num) && decide ((a.den : Int) = b.den))]) [4] 17 Tryz.func10 (by kernel_rfl) rfl rfl rfl fun G => ?_
  refine W.initA (hw := ?_)
  repeat' (first | ((first | apply U_ | (apply Ug_; exact rfl; exact rfl) | (apply Ugq_; exact rfl; exact rfl)); (first | exact QX.B TYok | exact QCd (s1) | exact QCd (s2)); exact rfl) | refine SX.Box TYok (h := ?_) | refine SC ?_ | refine SG ?_ | (refine W.condA (ht := fun hb => ?_) (hf := fun hb => ?_) <;> (try simp at hb) <;> (try (exfalso; omega))))
  all_goals exact Fin.ret ResL.auto
theorem Of_ok (p q : Int) (hp : i64B p) (hq : i64B q) (h0 : q ≠ 0) : ACalls Tryz.prog 43 [cI p, cI q] (.tup [zF (Rat.divInt p q), cI 0]) := by
  have z1 := ofZ_ok p hp
  have z2 := ofZ_ok q hq
  have n1 := new_ok p q (i64_ok hp) (i64_ok hq) h0
  generalize Rat.divInt p q = r at *
  refine ACalls.of_M TYok (qs := [zF r, cI 0]) [.cell 4 40, .tmp 5] 13 Tryz.func43 (by kernel_rfl) rfl rfl rfl fun G => ?_
  refine W.initA (hw := ?_)
  repeat' (first | ((first | apply U_); (first | exact QX.B TYok | exact QX.Ext TYok | exact QCd (z1) | exact QCd (z2) | exact QCd (n1)); exact rfl) | refine SX.Alloc TYok (h := ?_) | refine SX.Store TYok (h := ?_) | refine SC ?_ | (refine W.condA (ht := fun hb => ?_) (hf := fun hb => ?_) <;> (try simp at hb) <;> (try (exfalso; omega))))
  all_goals exact FinM.ret ResM.auto
end
end Go.Proofs.YtjedkgogjehigaaGreat
end
section
set_option linter.unusedVariables false
set_option linter.unusedSimpArgs false
set_option maxHeartbeats 8000000
set_option linter.unusedSectionVars false
namespace Go.Proofs.YtjedkgogjehigaaGreat
open Lf Go
attribute [local irreducible] PureOp EffOp Ev RG W Then InBlock Lf.Fin nth App InitE Pick SubE EvL EvD EvP EvR ResL Lf.Lex SubR SubBR RA RAll EvC FinO FinM ResM ResD FinS val pw digs trimL
abbrev Str := List UInt8
def encS (s : Str) : List Cell := [.str s]
abbrev slS (l : List Str) : PV := .one (.sl (l.map encS))
abbrev cS (s : Str) : PV := .one (.str s)
abbrev cU8 (c : UInt8) : PV := .one (.int .u8 c.toNat)
def letterF (c : UInt8) : Bool := decide ((c.toNat : Int) ≥ 97) && decide ((c.toNat : Int) ≤ 122)
def digitF (c : UInt8) : Bool := decide ((c.toNat : Int) ≥ 48) && decide ((c.toNat : Int) ≤ 57)
theorem letter_ok (c : UInt8) : ACalls Tryz.prog 140 [cU8 c] (.pv (cB (letterF c))) := by
  refine ACalls.of_W (qs := [_]) [2] 9 Tryz.func140 (by kernel_rfl) rfl rfl rfl fun G => ?_
  refine W.initA (hw := ?_)
  repeat' (first | ((first | apply U_ | (apply Ug_; exact rfl; exact rfl) | (apply Ugq_; exact rfl; exact rfl)); (first | exact QX.B TYok); exact rfl) | refine SC ?_ | refine SG ?_ | (refine W.condA (ht := fun hb => ?_) (hf := fun hb => ?_) <;> (try simp at hb) <;> (try (exfalso; omega))))
  exact Fin.ret ResL.auto
theorem digit_ok (c : UInt8) : ACalls Tryz.prog 143 [cU8 c] (.pv (cB (digitF c))) := by
  refine ACalls.of_W (qs := [_]) [2] 9 Tryz.func143 (by kernel_rfl) rfl rfl rfl fun G => ?_
  refine W.initA (hw := ?_)
  repeat' (first | ((first | apply U_ | (apply Ug_; exact rfl; exact rfl) | (apply Ugq_; exact rfl; exact rfl)); (first | exact QX.B TYok); exact rfl) | refine SC ?_ | refine SG ?_ | (refine W.condA (ht := fun hb => ?_) (hf := fun hb => ?_) <;> (try simp at hb) <;> (try (exfalso; omega))))
  exact Fin.ret ResL.auto
def alnum (c : UInt8) : Bool := letterF c || digitF c
theorem alnum_ok (c : UInt8) : ACalls Tryz.prog 142 [cU8 c] (.pv (cB (alnum c))) := by
  refine ACalls.of_W (qs := [_]) [2] 9 Tryz.func142 (by kernel_rfl) rfl rfl rfl fun G => ?_
  refine W.initA (hw := ?_)
  repeat' (first | ((first | apply U_ | (apply Ug_; exact rfl; exact rfl) | (apply Ugq_; exact rfl; exact rfl)); (first | exact QX.B TYok | exact QCl (letter_ok c) | exact QCl (digit_ok c)); exact rfl) | refine SC ?_ | refine SG ?_ | (refine W.condA (ht := fun hb => ?_) (hf := fun hb => ?_) <;> (try simp at hb) <;> (try (exfalso; omega))))
  exact Fin.ret ResL.auto
def RES : List Str := [
  [97, 99, 116, 117, 97, 108],
  [97, 100, 106, 117, 115, 116],
  [97, 110, 100],
  [97, 116],
  [98, 101, 102, 111, 114, 101],
  [99, 97, 108, 108],
  [99, 97, 112],
  [99, 111, 105, 110, 115],
  [99, 111, 117, 110, 116],
  [99, 111, 117, 112, 111, 110],
  [99, 111, 118, 101, 110, 97, 110, 116],
  [99, 114, 111, 115, 115],
  [100, 97, 121, 115],
  [101, 108, 115, 101],
  [101, 118, 101, 114],
  [101, 118, 101, 114, 121],
  [102, 97, 99, 101],
  [102, 97, 99, 116],
  [102, 97, 108, 115, 101],
  [102, 97, 115, 116],
  [102, 97, 118, 111, 117, 114],
  [102, 105, 120, 101, 100],
  [102, 114, 111, 109],
  [103, 114, 97, 99, 101],
  [105, 102],
  [105, 115, 115, 117, 101],
  [108, 101, 116],
  [108, 111, 110, 103],
  [109, 97, 106, 111, 114, 105, 116, 121],
  [109, 97, 120],
  [109, 105, 108, 108, 101],
  [109, 105, 110],
  [109, 111, 100, 105, 102, 105, 101, 100],
  [109, 111, 110, 116, 104, 115],
  [109, 117, 115, 116],
  [110, 101, 120, 116],
  [110, 111, 110, 101],
  [110, 111, 116],
  [110, 111, 116, 105, 99, 101],
  [111, 102],
  [111, 114],
  [114, 97, 110, 107],
  [114, 97, 116, 101],
  [114, 101, 99, 111, 114, 100],
  [115, 105, 110, 107],
  [115, 111, 111, 110],
  [116, 104, 101, 110],
  [116, 104, 105, 114, 116, 121],
  [116, 111],
  [116, 114, 117, 101]]
theorem reserved_ok : ACalls Tryz.prog 115 [] (.pv (slS RES)) := by
  refine ACalls.of_W (qs := [slS RES]) [0] 2 Tryz.func115 (by kernel_rfl) rfl rfl rfl fun G => ?_
  refine W.initA (hw := ?_)
  repeat' (first | ((first | apply U_); (first | exact QX.B TYok); exact rfl) | refine SX.Lit TYok (h := ?_) | refine SC ?_ | (refine W.condA (ht := fun hb => ?_) (hf := fun hb => ?_) <;> (try simp at hb) <;> (try (exfalso; omega))))
  exact Fin.ret (ResL.cons rfl rfl (PSub.of_eq rfl) ResL.nil)
theorem tw_at {s : Str} {p : UInt8 → Bool} : ∀ {k : Nat}, (∀ j, j < k → p (nth s j) = true) → k ≤ s.length → (k = s.length ∨ p (nth s k) = false) → (s.takeWhile p).length = k := by
  induction s with
  | nil => intro k _ h _; simp at h; simp [h]
  | cons c s ih =>
    intro k h1 h2 h3
    cases k with
    | zero =>
      rcases h3 with h3 | h3
      · simp at h3
      · have : p c = false := by simpa [nth, List.getD] using h3
        simp [List.takeWhile_cons, this]
    | succ k =>
      have hc : p c = true := by simpa [nth, List.getD] using h1 0 (by omega)
      have := ih (k := k) (fun j hj => by have := h1 (j + 1) (by omega); simpa [nth, List.getD] using this) (by simpa using h2) (by
        rcases h3 with h3 | h3
        · left; simpa using h3
        · right; simpa [nth, List.getD] using h3)
      simp [List.takeWhile_cons, hc, this]
theorem List.mem_takeWhile_imp' {p : UInt8 → Bool} : ∀ {s : Str} {x : UInt8}, x ∈ s.takeWhile p → p x = true
  | c :: s, x, h => by
    rw [List.takeWhile_cons] at h
    split at h
    · rcases List.mem_cons.1 h with rfl | h
      · assumption
      · exact List.mem_takeWhile_imp' h
    · cases h
theorem tw_self {p : UInt8 → Bool} : ∀ {s : Str}, (∀ x ∈ s, p x = true) → s.takeWhile p = s
  | [], _ => rfl
  | c :: s, h => by rw [List.takeWhile_cons, if_pos (h c (by simp)), tw_self fun x hx => h x (List.mem_cons_of_mem _ hx)]
theorem tw_all {s : Str} {p : UInt8 → Bool} : decide (((s.takeWhile p).length : Int) = s.length) = s.all p := by
  rw [Bool.eq_iff_iff, decide_eq_true_iff, List.all_eq_true]
  constructor
  · intro h
    have h' : (s.takeWhile p).length = s.length := by omega
    have e : s.takeWhile p = s := by
      have := List.takeWhile_prefix (p := p) (l := s)
      exact this.eq_of_length h'
    intro x hx
    rw [← e] at hx
    exact List.mem_takeWhile_imp' hx
  · intro h
    rw [tw_self h]
theorem span_ok (s : Str) (f : Nat) (p : UInt8 → Bool) (hl : s.length ≤ 9223372036854775807) (hf : FnOK Tryz.prog f) (hp : ∀ c : UInt8, ACalls Tryz.prog f [cU8 c] (.pv (cB (p c)))) : ACalls Tryz.prog 141 [cS s, .one (.fn f [])] (.pv (cI (s.takeWhile p).length)) := by
  refine ACalls.of_W (qs := [cI (s.takeWhile p).length]) [4] 20 Tryz.func141 (by kernel_rfl) rfl rfl rfl fun G => ?_
  refine W.initA (hw := ?_)
  repeat' (first | ((first | apply U_ | (apply Ug_; exact rfl; exact rfl) | (apply Ugq_; exact rfl; exact rfl)); (first | exact QX.B TYok | exact QX.Len TYok | exact QX.Idxs TYok); exact rfl) | refine SC ?_ | refine SG ?_ | (refine W.condA (ht := fun hb => ?_) (hf := fun hb => ?_) <;> (try simp at hb) <;> (try (exfalso; omega))))
  apply W.loopP (σ := Nat) 20 [0, 1] (fun k => k ≤ s.length ∧ ∀ j, j < k → p (nth s j) = true) (fun k => [(5, vI k)]) (fun _ => []) (fun k => s.length - k) (0)
  case hp => repeat (first | exact Pick.nil | apply Pick.cons rfl)
  case h0 =>
    refine ⟨by simp, ?_⟩
    exact Le.auto
  case round =>
    rintro k ⟨h1, h2⟩
    apply W.norm (by repeat (first | exact App.nil | apply App.cons))
    repeat' (first | ((first | apply U_ | (apply Ug_; exact rfl; exact rfl) | (apply Ugq_; exact rfl; exact rfl)); (first | exact QX.B TYok | exact QX.Len TYok | exact QX.Idxs TYok | (apply Q_callvA (hp (nth s k)); exact Ev.auto; exact EvA.auto)); exact rfl) | refine SC ?_ | refine SG ?_ | (refine W.condA (ht := fun hb => ?_) (hf := fun hb => ?_) <;> (try simp at hb) <;> (try (exfalso; omega))))
    · refine ⟨k + 1, ⟨by omega, fun j hj => ?_⟩, ?_, ?_⟩
      · by_cases e : j = k
        · subst e; exact hb.2
        · exact h2 j (by omega)
      · exact Le.auto
      · (try simp only); omega
    · have e : (s.takeWhile p).length = k := tw_at h2 h1 (by
        by_cases hk : k = s.length
        · exact .inl hk
        · exact .inr (hb (by omega)))
      rw [e]
      exact Fin.ret ResL.auto
theorem index_ok (l : List Str) (s : Str) (hl : l.length ≤ 9223372036854775807) : ACalls Tryz.prog 68 [slS l, cS s] (.pv (cI (if s ∈ l then (l.idxOf s : Int) else -1))) := by
  refine ACalls.of_W (qs := [cI (if s ∈ l then (l.idxOf s : Int) else -1)]) [4] 19 Tryz.func68 (by kernel_rfl) rfl rfl rfl fun G => ?_
  refine W.initA (hw := ?_)
  repeat' (first | ((first | apply U_); (first | exact QX.B TYok | exact QX.Len TYok | exact QX.Idx TYok); exact rfl) | refine SC ?_ | (apply S_isnil TYok; exact rfl; exact rfl; exact rfl; exact Ev.auto; intro bn hnil) | (refine W.condA (ht := fun hb => ?_) (hf := fun hb => ?_) <;> (try simp at hb) <;> (try (exfalso; omega))))
  apply W.loopP (σ := Nat) 19 [0, 1, 7] (fun k => k ≤ l.length ∧ s ∉ l.take k) (fun k => [(8, vI k)]) (fun _ => []) (fun k => l.length - k) (0)
  case hp => repeat (first | exact Pick.nil | apply Pick.cons rfl)
  case h0 =>
    refine ⟨by simp, ?_⟩
    exact Le.auto
  case round =>
    rintro k ⟨h1, h2⟩
    apply W.norm (by repeat (first | exact App.nil | apply App.cons))
    repeat' (first | ((first | apply U_); (first | exact QX.B TYok | exact QX.Len TYok | exact QX.Idx TYok); exact rfl) | refine SC ?_ | (apply S_isnil TYok; exact rfl; exact rfl; exact rfl; exact Ev.auto; intro bn hnil) | (refine W.condA (ht := fun hb => ?_) (hf := fun hb => ?_) <;> (try simp at hb) <;> (try (exfalso; omega))))
    · have hk : k < l.length := by omega
      have hm : s ∈ l := by rw [hb]; rw [nth, List.getD, List.getElem?_eq_getElem hk]; exact List.getElem_mem hk
      have e : l.idxOf s = k := by
        have e1 : l = l.take k ++ l.drop k := (List.take_append_drop k l).symm
        rw [e1, List.idxOf_append, if_neg h2, drop_nth hk, ← hb]
        simp; omega
      rw [if_pos hm, e]
      exact Fin.ret ResL.auto
    · refine ⟨k + 1, ⟨by omega, ?_⟩, ?_, ?_⟩
      · intro hm
        rw [take_nth (by omega)] at hm
        rcases List.mem_append.1 hm with hm | hm
        · exact h2 hm
        · exact hb (List.mem_singleton.1 hm)
      · exact Le.auto
      · (try simp only); omega
    · obtain rfl : k = l.length := by omega
      rw [List.take_length] at h2
      rw [if_neg h2]
      exact Fin.ret ResL.auto
theorem contains_ok (l : List Str) (s : Str) (hl : l.length ≤ 9223372036854775807) : ACalls Tryz.prog 114 [slS l, cS s] (.pv (cB (decide (s ∈ l)))) := by
  refine ACalls.of_W (qs := [cB (decide (s ∈ l))]) [4] 9 Tryz.func114 (by kernel_rfl) rfl rfl rfl fun G => ?_
  refine W.initA (hw := ?_)
  repeat' (first | ((first | apply U_); (first | exact QX.B TYok | exact QCl (index_ok l s hl)); exact rfl) | refine SC ?_ | (refine W.condA (ht := fun hb => ?_) (hf := fun hb => ?_) <;> (try simp at hb) <;> (try (exfalso; omega))))
  have e : decide (s ∈ l) = decide ((if s ∈ l then (l.idxOf s : Int) else -1) ≥ 0) := by
    by_cases h : s ∈ l <;> simp [h]
  rw [e]
  exact Fin.ret ResL.auto
def wordF (s : Str) : Bool := decide (s ≠ []) && letterF (nth s 0) && decide (s.length ≤ 20) && s.all alnum
theorem word_ok (s : Str) (hl : s.length ≤ 9223372036854775807) : ACalls Tryz.prog 113 [cS s] (.pv (cB (wordF s))) := by
  refine ACalls.of_W (qs := [cB (wordF s)]) [2] 21 Tryz.func113 (by kernel_rfl) rfl rfl rfl fun G => ?_
  refine W.initA (hw := ?_)
  by_cases h0 : s = []
  · subst h0
    repeat' (first | ((first | apply U_ | (apply Ug_; exact rfl; exact rfl) | (apply Ugq_; exact rfl; exact rfl)); (first | exact QX.B TYok | exact QX.Len TYok | exact QX.Idxs TYok | exact QCl (letter_ok 0) | exact QCl (letter_ok (nth [] 0)) | exact QCl (span_ok [] 66 alnum hl (alnum_ok 0).fn alnum_ok)); exact rfl) | refine SC ?_ | (apply S_isnil TYok; exact rfl; exact rfl; exact rfl; exact Ev.auto; intro bn hnil) | refine SG ?_ | (refine W.condA (ht := fun hb => ?_) (hf := fun hb => ?_) <;> (try simp at hb) <;> (try (exfalso; omega))))
    have e : wordF [] = false := by simp [wordF]
    rw [e]
    exact Fin.ret ResL.auto
  have hpos : 0 < s.length := List.length_pos_iff.2 h0
  repeat' (first | ((first | apply U_ | (apply Ug_; exact rfl; exact rfl) | (apply Ugq_; exact rfl; exact rfl)); (first | exact QX.B TYok | exact QX.Len TYok | exact QX.Idxs TYok | exact QCl (letter_ok (nth s 0)) | exact QCl (span_ok s 142 alnum hl (alnum_ok 0).fn alnum_ok)); exact rfl) | refine SC ?_ | (apply S_isnil TYok; exact rfl; exact rfl; exact rfl; exact Ev.auto; intro bn hnil) | refine SG ?_ | (refine W.condA (ht := fun hb => ?_) (hf := fun hb => ?_) <;> (try simp at hb) <;> (try (exfalso; omega))))
  · have e : wordF s = false := by
      rcases hb with (h | h) | h
      · exact absurd h h0
      · simp [wordF, h]
      · simp [wordF, show ¬ (s.length ≤ 20) by omega]
    rw [e]
    exact Fin.ret ResL.auto
  · have e : wordF s = decide (((s.takeWhile alnum).length : Int) = s.length) := by
      rw [tw_all]
      simp [wordF, hb.1.1, hb.1.2, show s.length ≤ 20 by omega]
    rw [e]
    exact Fin.ret ResL.auto
def nameF (s : Str) : Bool := wordF s && !decide (s ∈ RES)
theorem res_len : RES.length ≤ 9223372036854775807 := by decide
theorem name_ok (s : Str) (hl : s.length ≤ 9223372036854775807) : ACalls Tryz.prog 83 [cS s] (.pv (cB (nameF s))) := by
  refine ACalls.of_W (qs := [_]) [2] 11 Tryz.func83 (by kernel_rfl) rfl rfl rfl fun G => ?_
  refine W.initA (hw := ?_)
  repeat' (first | ((first | apply U_ | (apply Ug_; exact rfl; exact rfl) | (apply Ugq_; exact rfl; exact rfl)); (first | exact QX.B TYok | exact QCl (word_ok s hl) | exact QCl (contains_ok RES s res_len) | exact QCd (reserved_ok)); exact rfl) | refine SC ?_ | refine SG ?_ | (refine W.condA (ht := fun hb => ?_) (hf := fun hb => ?_) <;> (try simp at hb) <;> (try (exfalso; omega))))
  exact Fin.ret ResL.auto
end Go.Proofs.YtjedkgogjehigaaGreat
end
section
set_option linter.unusedVariables false
set_option linter.unusedSimpArgs false
set_option maxHeartbeats 8000000
set_option linter.unusedSectionVars false
namespace Go.Proofs.YtjedkgogjehigaaGreat
open Lf Go
attribute [local irreducible] PureOp EffOp Ev RG W Then InBlock Lf.Fin nth App InitE Pick SubE EvL EvD EvP EvR ResL Lf.Lex SubR SubBR RA RAll EvC FinO FinM ResM ResD FinS val pw digs trimL
inductive Exp where
  | mk (op n u : Int) (s : Str) (l : List Exp)
instance : Inhabited Exp := ⟨.mk 0 0 0 [] []⟩
def Exp.op : Exp → Int | .mk op _ _ _ _ => op
def Exp.n : Exp → Int | .mk _ n _ _ _ => n
def Exp.u : Exp → Int | .mk _ _ u _ _ => u
def Exp.s : Exp → Str | .mk _ _ _ s _ => s
def Exp.args : Exp → List Exp | .mk _ _ _ _ l => l
mutual
def encE : Exp → List Cell
  | .mk op n u s l => [.int .i64 op, .int .i64 n, .int .i64 u, .str s, .sl (encEs l)]
def encEs : List Exp → List (List Cell)
  | [] => []
  | e :: r => encE e :: encEs r
end
theorem encEs_map : ∀ l, encEs l = l.map encE
  | [] => by simp [encEs]
  | e :: r => by rw [encEs, encEs_map r]; rfl
theorem encE_mk (op n u : Int) (s : Str) (l : List Exp) : encE (.mk op n u s l) = [.int .i64 op, .int .i64 n, .int .i64 u, .str s, .sl (l.map encE)] := by rw [encE, encEs_map]
def encX (e : Exp) : List Cell := [.int .i64 e.op, .int .i64 e.n, .int .i64 e.u, .str e.s, .sl (e.args.map encE)]
theorem encE_fun : encE = encX := funext fun e => by obtain ⟨op, n, u, s, l⟩ := e; exact encE_mk op n u s l
abbrev aE (e : Exp) : PV := .agg (encX e)
abbrev slE (l : List Exp) : PV := .one (.sl (l.map encX))
theorem aE_mk (op n u : Int) (s : Str) (l : List Exp) : aE (.mk op n u s l) = .agg [.int .i64 op, .int .i64 n, .int .i64 u, .str s, .sl (l.map encX)] := by
  show PV.agg [_, _, _, _, Cell.sl (l.map encE)] = _
  rw [encE_fun]; rfl
def encJ (n : Int) : List Cell := [.int .i64 n]
abbrev slJ (l : List Int) : PV := .one (.sl (l.map encJ))
mutual
theorem Exp.ind {P : Exp → Prop} (h : ∀ op n u s l, (∀ x ∈ l, P x) → P (.mk op n u s l)) : ∀ e, P e
  | .mk op n u s l => h op n u s l (Exp.inds h l)
theorem Exp.inds {P : Exp → Prop} (h : ∀ op n u s l, (∀ x ∈ l, P x) → P (.mk op n u s l)) : ∀ l : List Exp, ∀ x ∈ l, P x
  | [], x, hx => by cases hx
  | e :: r, x, hx => match List.mem_cons.1 hx with
    | .inl h1 => h1 ▸ Exp.ind h e
    | .inr h2 => Exp.inds h r x h2
end
inductive OkE : Exp → Prop
  | mk {op n u : Int} {s : Str} {l : List Exp} (hs : s.length ≤ 9223372036854775807) (hl : l.length ≤ 9223372036854775807) (h : ∀ x ∈ l, OkE x) : OkE (.mk op n u s l)
def fidx {α : Type} (p : α → Bool) (l : List α) : Int := if l.any p then ((l.findIdx p : Nat) : Int) else -1
theorem any_take {α : Type} [Inhabited α] {l : List α} {p : α → Bool} {k : Nat} (h : k < l.length) : (l.take (k + 1)).any p = ((l.take k).any p || p (nth l k)) := by
  rw [take_nth h]; simp
theorem fidx_nn {α : Type} (p : α → Bool) (l : List α) : decide (fidx p l ≥ 0) = l.any p := by
  unfold fidx
  cases h : l.any p <;> simp
theorem fidx_hit {α : Type} [Inhabited α] {l : List α} {p : α → Bool} {k : Nat} (h : k < l.length) (h1 : (l.take k).any p = false) (h2 : p (nth l k) = true) : fidx p l = k := by
  have ha : l.any p = true := List.any_eq_true.2 ⟨nth l k, nth_mem h, h2⟩
  rw [fidx, if_pos ha]
  have : l.findIdx p = k := by
    rw [List.findIdx_eq h]
    refine ⟨by rw [← nth_eq h]; exact h2, fun j hj => ?_⟩
    have hm : l[j] ∈ l.take k := List.mem_take_iff_getElem.2 ⟨j, by omega, rfl⟩
    cases hp : p l[j] with
    | false => rfl
    | true => rw [List.any_eq_true.2 ⟨_, hm, hp⟩] at h1; cases h1
  rw [this]
theorem fidx_miss {α : Type} {l : List α} {p : α → Bool} (h : l.any p = false) : fidx p l = -1 := by rw [fidx, if_neg (by rw [h]; simp)]
theorem indexE_ok (l : List Exp) (f : Nat) (caps : List Cell) (p : Exp → Bool) (hl : l.length ≤ 9223372036854775807) (hp : ∀ x ∈ l, ACalls Tryz.prog f (aE x :: caps.map PV.one) (.pv (cB (p x)))) : ACalls Tryz.prog 92 [slE l, .one (.fn f caps)] (.pv (cI (fidx p l))) := by
  refine ACalls.of_W (qs := [cI (fidx p l)]) [4] 19 Tryz.func92 (by kernel_rfl) rfl rfl rfl fun G => ?_
  refine W.initA (hw := ?_)
  repeat' (first | ((first | apply U_); (first | exact QX.B TYok | exact QX.Len TYok | exact QX.Idx TYok); exact rfl) | refine SC ?_ | (refine W.condA (ht := fun hb => ?_) (hf := fun hb => ?_) <;> (try simp at hb) <;> (try (exfalso; omega))))
  apply W.loopP (σ := Nat) 19 [0, 1, 7] (fun k => k ≤ l.length ∧ (l.take k).any p = false) (fun k => [(8, vI k)]) (fun _ => []) (fun k => l.length - k) (0)
  case hp => repeat (first | exact Pick.nil | apply Pick.cons rfl)
  case h0 =>
    refine ⟨by simp, ?_⟩
    exact Le.auto
  case round =>
    rintro k ⟨h1, h2⟩
    apply W.norm (by repeat (first | exact App.nil | apply App.cons))
    by_cases hk : k < l.length
    · repeat' (first | ((first | apply U_); (first | exact QX.B TYok | exact QX.Len TYok | exact QX.Idx TYok | (apply Q_callvA (hp (nth l k) (nth_mem hk)); exact Ev.auto; exact EvA.auto)); exact rfl) | refine SC ?_ | (refine W.condA (ht := fun hb => ?_) (hf := fun hb => ?_) <;> (try simp at hb) <;> (try (exfalso; omega))))
      · rw [fidx_hit ‹_› h2 hb]
        exact Fin.ret ResL.auto
      · refine ⟨k + 1, ⟨by omega, ?_⟩, ?_, ?_⟩
        · rw [any_take ‹_›, h2, hb]; rfl
        · exact Le.auto
        · (try simp only); omega
    · obtain rfl : k = l.length := by omega
      rw [List.take_length] at h2
      repeat' (first | ((first | apply U_); (first | exact QX.B TYok | exact QX.Len TYok | exact QX.Idx TYok); exact rfl) | refine SC ?_ | (refine W.condA (ht := fun hb => ?_) (hf := fun hb => ?_) <;> (try simp at hb) <;> (try (exfalso; omega))))
      rw [fidx_miss h2]
      exact Fin.ret ResL.auto
theorem indexI_ok (l : List Int) (f : Nat) (caps : List Cell) (p : Int → Bool) (hl : l.length ≤ 9223372036854775807) (hp : ∀ x ∈ l, ACalls Tryz.prog f (cI x :: caps.map PV.one) (.pv (cB (p x)))) : ACalls Tryz.prog 139 [slJ l, .one (.fn f caps)] (.pv (cI (fidx p l))) := by
  refine ACalls.of_W (qs := [cI (fidx p l)]) [4] 19 Tryz.func139 (by kernel_rfl) rfl rfl rfl fun G => ?_
  refine W.initA (hw := ?_)
  repeat' (first | ((first | apply U_); (first | exact QX.B TYok | exact QX.Len TYok | exact QX.Idx TYok); exact rfl) | refine SC ?_ | (refine W.condA (ht := fun hb => ?_) (hf := fun hb => ?_) <;> (try simp at hb) <;> (try (exfalso; omega))))
  apply W.loopP (σ := Nat) 19 [0, 1, 7] (fun k => k ≤ l.length ∧ (l.take k).any p = false) (fun k => [(8, vI k)]) (fun _ => []) (fun k => l.length - k) (0)
  case hp => repeat (first | exact Pick.nil | apply Pick.cons rfl)
  case h0 =>
    refine ⟨by simp, ?_⟩
    exact Le.auto
  case round =>
    rintro k ⟨h1, h2⟩
    apply W.norm (by repeat (first | exact App.nil | apply App.cons))
    by_cases hk : k < l.length
    · repeat' (first | ((first | apply U_); (first | exact QX.B TYok | exact QX.Len TYok | exact QX.Idx TYok | (apply Q_callvA (hp (nth l k) (nth_mem hk)); exact Ev.auto; exact EvA.auto)); exact rfl) | refine SC ?_ | (refine W.condA (ht := fun hb => ?_) (hf := fun hb => ?_) <;> (try simp at hb) <;> (try (exfalso; omega))))
      · rw [fidx_hit ‹_› h2 hb]
        exact Fin.ret ResL.auto
      · refine ⟨k + 1, ⟨by omega, ?_⟩, ?_, ?_⟩
        · rw [any_take ‹_›, h2, hb]; rfl
        · exact Le.auto
        · (try simp only); omega
    · obtain rfl : k = l.length := by omega
      rw [List.take_length] at h2
      repeat' (first | ((first | apply U_); (first | exact QX.B TYok | exact QX.Len TYok | exact QX.Idx TYok); exact rfl) | refine SC ?_ | (refine W.condA (ht := fun hb => ?_) (hf := fun hb => ?_) <;> (try simp at hb) <;> (try (exfalso; omega))))
      rw [fidx_miss h2]
      exact Fin.ret ResL.auto
theorem containsE_ok (l : List Exp) (f : Nat) (caps : List Cell) (p : Exp → Bool) (hl : l.length ≤ 9223372036854775807) (hp : ∀ x ∈ l, ACalls Tryz.prog f (aE x :: caps.map PV.one) (.pv (cB (p x)))) : ACalls Tryz.prog 60 [slE l, .one (.fn f caps)] (.pv (cB (l.any p))) := by
  refine ACalls.of_W (qs := [cB (l.any p)]) [4] 9 Tryz.func60 (by kernel_rfl) rfl rfl rfl fun G => ?_
  refine W.initA (hw := ?_)
  repeat' (first | ((first | apply U_); (first | exact QX.B TYok | exact QCl (indexE_ok l f caps p hl hp)); exact rfl) | refine SC ?_ | (refine W.condA (ht := fun hb => ?_) (hf := fun hb => ?_) <;> (try simp at hb) <;> (try (exfalso; omega))))
  rw [← fidx_nn]
  exact Fin.ret ResL.auto
theorem containsI_ok (l : List Int) (f : Nat) (caps : List Cell) (p : Int → Bool) (hl : l.length ≤ 9223372036854775807) (hp : ∀ x ∈ l, ACalls Tryz.prog f (cI x :: caps.map PV.one) (.pv (cB (p x)))) : ACalls Tryz.prog 111 [slJ l, .one (.fn f caps)] (.pv (cB (l.any p))) := by
  refine ACalls.of_W (qs := [cB (l.any p)]) [4] 9 Tryz.func111 (by kernel_rfl) rfl rfl rfl fun G => ?_
  refine W.initA (hw := ?_)
  repeat' (first | ((first | apply U_); (first | exact QX.B TYok | exact QCl (indexI_ok l f caps p hl hp)); exact rfl) | refine SC ?_ | (refine W.condA (ht := fun hb => ?_) (hf := fun hb => ?_) <;> (try simp at hb) <;> (try (exfalso; omega))))
  rw [← fidx_nn]
  exact Fin.ret ResL.auto
end Go.Proofs.YtjedkgogjehigaaGreat
end
section
set_option linter.unusedVariables false
set_option linter.unusedSimpArgs false
set_option maxHeartbeats 8000000
set_option linter.unusedSectionVars false
namespace Go.Proofs.YtjedkgogjehigaaGreat
open Lf Go
attribute [local irreducible] PureOp EffOp Ev RG W Then InBlock Lf.Fin nth App InitE Pick SubE EvL EvD EvP EvR ResL Lf.Lex SubR SubBR RA RAll EvC FinO FinM ResM ResD FinS val pw digs trimL
theorem PureOp.given {P : Program} {G : Ghost} {A : St} {o : Oper} {p : Prop} {v : AV} (h : p → PureOp P G A o p v) : PureOp P G A o p v := by
  unfold PureOp at h ⊢
  exact fun Φ β a w hs hp => h hp Φ β a w hs hp
theorem Q_litDp {P : Program} {G : Ghost} {T : TT} (hT : TOK P T) {n0 : Nat} {env : List (Nat × (Prop × AV))} {bl : List (Nat × Blk)} {p : Prop} {dst : Option Nat} {ty : TypeId} {pos : String} {after : Array Edge} {gd : Option (Nat × Bool)} {t e n : Nat} {ps : List (Nat × Operand)} {rs : List (List Cell)} {ti te : TI} (hx : p → EvR (St.mk n0 env bl) ps 0 rs) (ht : T t = some ti) (hk : ti.kind = .slice e) (he : T e = some te) (hlen : rs.length = n) (hrs : rs.all (fun r => Nat.beq r.length te.sz) = true)
    (hb : Nat.ble (n * te.sz) 16777216 = true) : PureOp P G (St.mk n0 env bl) ⟨dst, .buildSlice t n ps.toArray, ty, pos, after, gd⟩ p (.pv (.one (.sl rs))) := PureOp.given fun hp => Q_litD hT (hx hp) ht hk he hlen hrs hb
def inF (a b n : Int) : Bool := decide (a ≤ n) && decide (n ≤ b)
theorem in1_ok (a b n : Int) : ACalls Tryz.prog 112 [cI n, .one (.ptr [.int .i64 a]), .one (.ptr [.int .i64 b])] (.pv (cB (!inF a b n))) := by
  refine ACalls.of_W (qs := [cB (!inF a b n)]) [4] 13 Tryz.func112 (by kernel_rfl) rfl rfl rfl fun G => ?_
  refine W.initA (hw := ?_)
  repeat' (first | ((first | apply U_ | (apply Ug_; exact rfl; exact rfl) | (apply Ugq_; exact rfl; exact rfl)); (first | exact QX.B TYok); exact rfl) | refine SC ?_ | refine SG ?_ | (refine W.condA (ht := fun hb => ?_) (hf := fun hb => ?_) <;> (try simp at hb) <;> (try (exfalso; omega))))
  have e : (!inF a b n) = (decide (n < a) || decide (n > b)) := by
    rw [Bool.eq_iff_iff]; simp [inF] <;> omega
  rw [e]
  exact Fin.ret ResL.auto
theorem in_ok (a b : Int) (l : List Int) (hl : l.length ≤ 9223372036854775807) : ACalls Tryz.prog 82 [cI a, cI b, slJ l] (.pv (cB (l.all (inF a b)))) := by
  refine ACalls.of_W (qs := [cB (l.all (inF a b))]) [6] 11 Tryz.func82 (by kernel_rfl) rfl rfl rfl fun G => ?_
  refine W.initA (hw := ?_)
  repeat' (first | ((first | apply U_); (first | exact QX.B TYok | exact QX.Fun TYok | exact QCd (containsI_ok l 112 [.ptr [.int .i64 a], .ptr [.int .i64 b]] (fun n => !inF a b n) hl (fun n _ => in1_ok a b n))); exact rfl) | refine SX.Box TYok (h := ?_) | (refine S_makeFuncF (cs := [.ptr [.int .i64 a], .ptr [.int .i64 b]]) (EvC.cons Ev.auto (EvC.cons Ev.auto EvC.nil)) ?_ ?_; exact rfl) | refine SC ?_ | (refine W.condA (ht := fun hb => ?_) (hf := fun hb => ?_) <;> (try simp at hb) <;> (try (exfalso; omega))))
  have e : l.all (inF a b) = !(l.any fun n => !inF a b n) := by
    rw [Bool.eq_iff_iff]; simp
  rw [e]
  exact Fin.ret ResL.auto
/-- the empty string, as1 the program writes it -/
abbrev E0 : Str := (ByteArray.mk #[]).data.toList
def opsF (op : Int) : Int := if op = 0 ∨ op = 1 ∨ op = 2 ∨ op = 3 then 0 else if op = 12 ∨ op = 16 ∨ op = 17 ∨ op = 18 then 1 else if op = 15 then 3 else if op < 0 ∨ op ≥ 19 then -1 else 2
theorem operands_ok (op : Int) : ACalls Tryz.prog 81 [cI op] (.pv (cI (opsF op))) := by
  refine ACalls.of_W (qs := [cI (opsF op)]) [2] 22 Tryz.func81 (by kernel_rfl) rfl rfl rfl fun G => ?_
  refine W.initA (hw := ?_)
  repeat' (first | ((first | apply U_ | (apply Ug_; exact rfl; exact rfl) | (apply Ugq_; exact rfl; exact rfl)); (first | exact QX.B TYok); exact rfl) | refine SC ?_ | (apply S_isnil TYok; exact rfl; exact rfl; exact rfl; exact Ev.auto; intro bn hnil) | refine SG ?_ | (refine W.condA (ht := fun hb => ?_) (hf := fun hb => ?_) <;> (try simp at hb) <;> (try (exfalso; omega))))
  all_goals first
    | (rw [opsF, if_pos (by omega)]; exact Fin.ret ResL.auto)
    | (rw [opsF, if_neg (by omega), if_pos (by omega)]; exact Fin.ret ResL.auto)
    | (rw [opsF, if_neg (by omega), if_neg (by omega), if_pos (by omega)]; exact Fin.ret ResL.auto)
    | (rw [opsF, if_neg (by omega), if_neg (by omega), if_neg (by omega), if_pos (by omega)]; exact Fin.ret ResL.auto)
    | (rw [opsF, if_neg (by omega), if_neg (by omega), if_neg (by omega), if_neg (by omega)]; exact Fin.ret ResL.auto)
def rightF : Nat → Exp → Bool
  | 0, _ => false
  | d + 1, .mk op n u s l => decide ((l.length : Int) = opsF op) && (if op = 0 then decide (s = []) && inF 0 4 u && inF 0 (if u = 4 then 1 else 1000000000000000) n else if op = 1 ∨ op = 2 ∨ op = 3 then decide (n = 0) && decide (u = 0) && nameF s
    else if op = 16 ∨ op = 17 ∨ op = 18 then decide (u = 0) && decide (s = []) && inF 1 1000 n && l.all (rightF d) else decide (n = 0) && decide (u = 0) && decide (s = []) && l.all (rightF d))
end Go.Proofs.YtjedkgogjehigaaGreat
end
section
set_option linter.unusedVariables false
set_option linter.unusedSimpArgs false
set_option maxHeartbeats 8000000
set_option linter.unusedSectionVars false
namespace Go.Proofs.YtjedkgogjehigaaGreat
open Lf Go
attribute [local irreducible] PureOp EffOp Ev RG W Then InBlock Lf.Fin nth App InitE Pick SubE EvL EvD EvP EvR ResL Lf.Lex SubR SubBR RA RAll EvC FinO FinM ResM ResD FinS val pw digs trimL
theorem right0_a
    {d : Nat} {n u : Int} {s : Str} {l : List Exp} (hs : s.length ≤ 9223372036854775807) (hl : l.length ≤ 9223372036854775807) (hlen : (l.length : Int) = opsF 0)
    (hdc : (((d + 1 : Nat) : Int)) ≠ 0) (hdb : (d : Int) ≤ 100) (ih : ∀ x ∈ l, ACalls Tryz.prog 55 [aE x, cI (((d + 1 : Nat) : Int) - 1)] (.pv (cB (rightF d x)))) (cl : ∀ x ∈ l, ACalls Tryz.prog 84 [aE x, .one (.ptr [.int .i64 ((d + 1 : Nat) : Int)])] (.pv (cB (!rightF d x))))
    (hA : decide (s = E0) = false) : ACalls Tryz.prog 55 [.agg [.int .i64 0, .int .i64 n, .int .i64 u, .str s, .sl (l.map encX)], cI ((d + 1 : Nat) : Int)] (.pv (cB false)) := by
  refine ACalls.of_W (qs := [cB false]) [4] 104 Tryz.func55 (by kernel_rfl) rfl rfl rfl fun G => ?_
  refine W.initA (hw := ?_)
  repeat' (first | ((first | apply U_ | (apply Ug_; exact rfl; exact rfl) | (apply Ugq_; exact rfl; exact rfl) | apply Lex.u | (apply Lex.g; exact rfl; exact rfl) | (apply Lex.gq; exact rfl; exact rfl)); (first | (apply Q_litD TYok; (repeat (first | exact EvR.nil | apply EvR.cons Ev.auto)); exact rfl; exact rfl; exact rfl; exact rfl; exact rfl; exact rfl) | exact QX.B TYok | exact QX.Len TYok | exact QX.Idx TYok | exact QX.Fun TYok | exact QCl (operands_ok 0)); exact rfl) | refine SX.Lit TYok (h := ?_) | refine SX.Box TYok (h := ?_) | refine SC ?_ | (apply S_isnil TYok; exact rfl; exact rfl; exact rfl; exact Ev.auto; intro bn hnil) | (apply RG.gT; exact rfl; exact rfl; (first | assumption | decide)) | (apply RG.gF; exact rfl; exact rfl; (first | assumption | decide | (rw [ne_eq, Bool.not_eq_true]; assumption) | (rw [ne_eq, Bool.not_eq_false]; assumption)); exact rfl) | (apply W.draw2 (id := 1) [0, 1, 3, 7, 15, 31, 7, 71, 199, 511, 1023] [[3], [6], [7], [2, 8], [9, 8], [10, 8], [2, 8], [12, 8], [13, 8], [11, 14, 8], [8, 15]] 11 [(6, 8), (7, 64), (8, 128), (9, 260), (10, 768), (11, 1280), (12, 260), (13, 4352), (14, 8448), (15, 18688), (16, 33024)] mixed (by kernel_rfl) rfl rfl) | (apply W.draw2 (id := 16) [0, 1, 3, 7, 15, 31, 63, 127, 255, 511, 1023, 2047, 4095, 8191, 16383, 32767, 65535, 131071, 262143, 32767, 557055, 2097151, 4194303, 8388607] [[2], [61], [62], [63], [2, 64], [65, 64], [66, 64], [64, 67], [68], [2, 69], [70, 69], [71, 69], [72, 69], [69, 73], [74], [2, 75], [76, 75], [77, 75], [78, 75], [3, 75], [80, 75], [79, 81, 75], [75, 82], [83]] 24 [(61, 4), (62, 2305843009213693952), (63, 4611686018427387904), (64, 9223372036854775808), (65, 18446744073709551620), (66, 55340232221128654848), (67, 92233720368547758080), (68, 166020696663385964544), (69, 295147905179352825856), (70, 590295810358705651716), (71, 1770887431076116955136), (72, 2951479051793528258560), (73, 5312662293228350865408), (74, 10035028776097996079104), (75, 18889465931478580854784), (76, 37778931862957161709572), (77, 113336795588871485128704), (78, 188894659314785808547840), (79, 340010386766614455386112), (80, 37778931862957161709576), (81, 1246704751477586336415744), (82, 3060093480899530098475008), (83, 4873482210321473860534272), (4, 9671406556917033397649408)] mixed (by kernel_rfl) rfl rfl) | (refine W.condA (ht := fun hb => ?_) (hf := fun hb => ?_) <;> (try simp at hb) <;> (try (exfalso; omega))))
  all_goals exact Fin.ret ResL.auto
theorem right0_b
    {d : Nat} {n u : Int} {s : Str} {l : List Exp} (hs : s.length ≤ 9223372036854775807) (hl : l.length ≤ 9223372036854775807) (hlen : (l.length : Int) = opsF 0)
    (hdc : (((d + 1 : Nat) : Int)) ≠ 0) (hdb : (d : Int) ≤ 100) (ih : ∀ x ∈ l, ACalls Tryz.prog 55 [aE x, cI (((d + 1 : Nat) : Int) - 1)] (.pv (cB (rightF d x)))) (cl : ∀ x ∈ l, ACalls Tryz.prog 84 [aE x, .one (.ptr [.int .i64 ((d + 1 : Nat) : Int)])] (.pv (cB (!rightF d x))))
    (hA : decide (s = E0) = true) (hB : [u].all (inF 0 4) = false) : ACalls Tryz.prog 55 [.agg [.int .i64 0, .int .i64 n, .int .i64 u, .str s, .sl (l.map encX)], cI ((d + 1 : Nat) : Int)] (.pv (cB false)) := by
  have hC : (decide (s = E0) && [u].all (inF 0 4)) = false := by rw [hA, hB]; rfl
  refine ACalls.of_W (qs := [cB false]) [4] 104 Tryz.func55 (by kernel_rfl) rfl rfl rfl fun G => ?_
  refine W.initA (hw := ?_)
  repeat' (first | ((first | apply U_ | (apply Ug_; exact rfl; exact rfl) | (apply Ugq_; exact rfl; exact rfl) | apply Lex.u | (apply Lex.g; exact rfl; exact rfl) | (apply Lex.gq; exact rfl; exact rfl)); (first | (apply Q_litD TYok; (repeat (first | exact EvR.nil | apply EvR.cons Ev.auto)); exact rfl; exact rfl; exact rfl; exact rfl; exact rfl; exact rfl) | exact QX.B TYok | exact QX.Len TYok | exact QX.Idx TYok | exact QX.Fun TYok | exact QCl (operands_ok 0) | exact QCl (in_ok 0 4 [u] (by simp))); exact rfl) | refine SX.Lit TYok (h := ?_) | refine SX.Box TYok (h := ?_) | refine SC ?_ | (apply S_isnil TYok; exact rfl; exact rfl; exact rfl; exact Ev.auto; intro bn hnil) | (apply RG.gT; exact rfl; exact rfl; (first | assumption | decide)) | (apply RG.gF; exact rfl; exact rfl; (first | assumption | decide | (rw [ne_eq, Bool.not_eq_true]; assumption) | (rw [ne_eq, Bool.not_eq_false]; assumption)); exact rfl) | (apply W.draw2 (id := 1) [0, 1, 3, 7, 15, 31, 7, 71, 199, 511, 1023] [[3], [6], [7], [2, 8], [9, 8], [10, 8], [2, 8], [12, 8], [13, 8], [11, 14, 8], [8, 15]] 11 [(6, 8), (7, 64), (8, 128), (9, 260), (10, 768), (11, 1280), (12, 260), (13, 4352), (14, 8448), (15, 18688), (16, 33024)] mixed (by kernel_rfl) rfl rfl) | (apply W.draw2 (id := 16) [0, 1, 3, 7, 15, 31, 63, 127, 255, 511, 1023, 2047, 4095, 8191, 16383, 32767, 65535, 131071, 262143, 32767, 557055, 2097151, 4194303, 8388607] [[2], [61], [62], [63], [2, 64], [65, 64], [66, 64], [64, 67], [68], [2, 69], [70, 69], [71, 69], [72, 69], [69, 73], [74], [2, 75], [76, 75], [77, 75], [78, 75], [3, 75], [80, 75], [79, 81, 75], [75, 82], [83]] 24 [(61, 4), (62, 2305843009213693952), (63, 4611686018427387904), (64, 9223372036854775808), (65, 18446744073709551620), (66, 55340232221128654848), (67, 92233720368547758080), (68, 166020696663385964544), (69, 295147905179352825856), (70, 590295810358705651716), (71, 1770887431076116955136), (72, 2951479051793528258560), (73, 5312662293228350865408), (74, 10035028776097996079104), (75, 18889465931478580854784), (76, 37778931862957161709572), (77, 113336795588871485128704), (78, 188894659314785808547840), (79, 340010386766614455386112), (80, 37778931862957161709576), (81, 1246704751477586336415744), (82, 3060093480899530098475008), (83, 4873482210321473860534272), (4, 9671406556917033397649408)] mixed (by kernel_rfl) rfl rfl) | (refine W.condA (ht := fun hb => ?_) (hf := fun hb => ?_) <;> (try simp at hb) <;> (try (exfalso; omega))))
  all_goals exact Fin.ret ResL.auto
theorem right0_c
    {d : Nat} {n u : Int} {s : Str} {l : List Exp} (hs : s.length ≤ 9223372036854775807) (hl : l.length ≤ 9223372036854775807) (hlen : (l.length : Int) = opsF 0)
    (hdc : (((d + 1 : Nat) : Int)) ≠ 0) (hdb : (d : Int) ≤ 100) (ih : ∀ x ∈ l, ACalls Tryz.prog 55 [aE x, cI (((d + 1 : Nat) : Int) - 1)] (.pv (cB (rightF d x)))) (cl : ∀ x ∈ l, ACalls Tryz.prog 84 [aE x, .one (.ptr [.int .i64 ((d + 1 : Nat) : Int)])] (.pv (cB (!rightF d x))))
    (hA : decide (s = E0) = true) (hB : [u].all (inF 0 4) = true) : ACalls Tryz.prog 55 [.agg [.int .i64 0, .int .i64 n, .int .i64 u, .str s, .sl (l.map encX)], cI ((d + 1 : Nat) : Int)] (.pv (cB (decide (s = E0) && [u].all (inF 0 4) && [n].all (inF 0 (if u = 4 then 1 else 1000000000000000))))) := by
  have hC : (decide (s = E0) && [u].all (inF 0 4)) = true := by rw [hA, hB]; rfl
  refine ACalls.of_W (qs := [cB (decide (s = E0) && [u].all (inF 0 4) && [n].all (inF 0 (if u = 4 then 1 else 1000000000000000)))]) [4] 104 Tryz.func55 (by kernel_rfl) rfl rfl rfl fun G => ?_
  refine W.initA (hw := ?_)
  repeat' (first | ((first | apply U_ | (apply Ug_; exact rfl; exact rfl) | (apply Ugq_; exact rfl; exact rfl) | apply Lex.u | (apply Lex.g; exact rfl; exact rfl) | (apply Lex.gq; exact rfl; exact rfl)); (first | (apply Q_litD TYok; (repeat (first | exact EvR.nil | apply EvR.cons Ev.auto)); exact rfl; exact rfl; exact rfl; exact rfl; exact rfl; exact rfl) | exact QX.B TYok | exact QX.Len TYok | exact QX.Idx TYok | exact QX.Fun TYok | exact QCl (operands_ok 0) | exact QCl (in_ok 0 4 [u] (by simp)) | exact QCl (in_ok 0 1000000000000000 [n] (by simp)) | exact QCl (in_ok 0 1 [n] (by simp))); exact rfl) | refine SX.Lit TYok (h := ?_) | refine SX.Box TYok (h := ?_) | refine SC ?_ | (apply S_isnil TYok; exact rfl; exact rfl; exact rfl; exact Ev.auto; intro bn hnil) | (apply RG.gT; exact rfl; exact rfl; (first | assumption | decide)) | (apply RG.gF; exact rfl; exact rfl; (first | assumption | decide | (rw [ne_eq, Bool.not_eq_true]; assumption) | (rw [ne_eq, Bool.not_eq_false]; assumption)); exact rfl) | (apply W.draw2 (id := 1) [0, 1, 3, 7, 15, 31, 7, 71, 199, 511, 1023] [[3], [6], [7], [2, 8], [9, 8], [10, 8], [2, 8], [12, 8], [13, 8], [11, 14, 8], [8, 15]] 11 [(6, 8), (7, 64), (8, 128), (9, 260), (10, 768), (11, 1280), (12, 260), (13, 4352), (14, 8448), (15, 18688), (16, 33024)] mixed (by kernel_rfl) rfl rfl) | (apply W.draw2 (id := 16) [0, 1, 3, 7, 15, 31, 63, 127, 255, 511, 1023, 2047, 4095, 8191, 16383, 32767, 65535, 131071, 262143, 32767, 557055, 2097151, 4194303, 8388607] [[2], [61], [62], [63], [2, 64], [65, 64], [66, 64], [64, 67], [68], [2, 69], [70, 69], [71, 69], [72, 69], [69, 73], [74], [2, 75], [76, 75], [77, 75], [78, 75], [3, 75], [80, 75], [79, 81, 75], [75, 82], [83]] 24 [(61, 4), (62, 2305843009213693952), (63, 4611686018427387904), (64, 9223372036854775808), (65, 18446744073709551620), (66, 55340232221128654848), (67, 92233720368547758080), (68, 166020696663385964544), (69, 295147905179352825856), (70, 590295810358705651716), (71, 1770887431076116955136), (72, 2951479051793528258560), (73, 5312662293228350865408), (74, 10035028776097996079104), (75, 18889465931478580854784), (76, 37778931862957161709572), (77, 113336795588871485128704), (78, 188894659314785808547840), (79, 340010386766614455386112), (80, 37778931862957161709576), (81, 1246704751477586336415744), (82, 3060093480899530098475008), (83, 4873482210321473860534272), (4, 9671406556917033397649408)] mixed (by kernel_rfl) rfl rfl) | (refine W.condA (ht := fun hb => ?_) (hf := fun hb => ?_) <;> (try simp at hb) <;> (try (exfalso; omega))))
  · rw [if_pos hb]
    exact Fin.ret ResL.auto
  · rw [if_neg hb]
    exact Fin.ret ResL.auto
end Go.Proofs.YtjedkgogjehigaaGreat
end
section
set_option linter.unusedVariables false
set_option linter.unusedSimpArgs false
set_option maxHeartbeats 8000000
set_option linter.unusedSectionVars false
namespace Go.Proofs.YtjedkgogjehigaaGreat
open Lf Go
attribute [local irreducible] PureOp EffOp Ev RG W Then InBlock Lf.Fin nth App InitE Pick SubE EvL EvD EvP EvR ResL Lf.Lex SubR SubBR RA RAll EvC FinO FinM ResM ResD FinS val pw digs trimL
theorem right1_ok {op : Int} (h1 : op = 1 ∨ op = 2 ∨ op = 3)
    {d : Nat} {n u : Int} {s : Str} {l : List Exp} (hs : s.length ≤ 9223372036854775807) (hl : l.length ≤ 9223372036854775807) (hlen : (l.length : Int) = opsF op)
    (hdc : (((d + 1 : Nat) : Int)) ≠ 0) (hdb : (d : Int) ≤ 100) (ih : ∀ x ∈ l, ACalls Tryz.prog 55 [aE x, cI (((d + 1 : Nat) : Int) - 1)] (.pv (cB (rightF d x)))) (cl : ∀ x ∈ l, ACalls Tryz.prog 84 [aE x, .one (.ptr [.int .i64 ((d + 1 : Nat) : Int)])] (.pv (cB (!rightF d x))))
     : ACalls Tryz.prog 55 [.agg [.int .i64 op, .int .i64 n, .int .i64 u, .str s, .sl (l.map encX)], cI ((d + 1 : Nat) : Int)] (.pv (cB (decide (n = 0) && decide (u = 0) && nameF s))) := by
  refine ACalls.of_W (qs := [cB (decide (n = 0) && decide (u = 0) && nameF s)]) [4] 104 Tryz.func55 (by kernel_rfl) rfl rfl rfl fun G => ?_
  refine W.initA (hw := ?_)
  repeat' (first | ((first | apply U_ | (apply Ug_; exact rfl; exact rfl) | (apply Ugq_; exact rfl; exact rfl) | apply Lex.u | (apply Lex.g; exact rfl; exact rfl) | (apply Lex.gq; exact rfl; exact rfl)); (first | (apply Q_litD TYok; (repeat (first | exact EvR.nil | apply EvR.cons Ev.auto)); exact rfl; exact rfl; exact rfl; exact rfl; exact rfl; exact rfl) | exact QX.B TYok | exact QX.Len TYok | exact QX.Idx TYok | exact QX.Fun TYok | exact QCl (operands_ok op) | exact QCl (name_ok s (by omega))); exact rfl) | refine SX.Lit TYok (h := ?_) | refine SX.Box TYok (h := ?_) | refine SC ?_ | (apply S_isnil TYok; exact rfl; exact rfl; exact rfl; exact Ev.auto; intro bn hnil) | (apply RG.gT; exact rfl; exact rfl; (first | assumption | decide)) | (apply RG.gF; exact rfl; exact rfl; (first | assumption | decide | (rw [ne_eq, Bool.not_eq_true]; assumption) | (rw [ne_eq, Bool.not_eq_false]; assumption)); exact rfl) | (apply W.draw2 (id := 1) [0, 1, 3, 7, 15, 31, 7, 71, 199, 511, 1023] [[3], [6], [7], [2, 8], [9, 8], [10, 8], [2, 8], [12, 8], [13, 8], [11, 14, 8], [8, 15]] 11 [(6, 8), (7, 64), (8, 128), (9, 260), (10, 768), (11, 1280), (12, 260), (13, 4352), (14, 8448), (15, 18688), (16, 33024)] mixed (by kernel_rfl) rfl rfl) | (apply W.draw2 (id := 16) [0, 1, 3, 7, 15, 31, 63, 127, 255, 511, 1023, 2047, 4095, 8191, 16383, 32767, 65535, 131071, 262143, 32767, 557055, 2097151, 4194303, 8388607] [[2], [61], [62], [63], [2, 64], [65, 64], [66, 64], [64, 67], [68], [2, 69], [70, 69], [71, 69], [72, 69], [69, 73], [74], [2, 75], [76, 75], [77, 75], [78, 75], [3, 75], [80, 75], [79, 81, 75], [75, 82], [83]] 24 [(61, 4), (62, 2305843009213693952), (63, 4611686018427387904), (64, 9223372036854775808), (65, 18446744073709551620), (66, 55340232221128654848), (67, 92233720368547758080), (68, 166020696663385964544), (69, 295147905179352825856), (70, 590295810358705651716), (71, 1770887431076116955136), (72, 2951479051793528258560), (73, 5312662293228350865408), (74, 10035028776097996079104), (75, 18889465931478580854784), (76, 37778931862957161709572), (77, 113336795588871485128704), (78, 188894659314785808547840), (79, 340010386766614455386112), (80, 37778931862957161709576), (81, 1246704751477586336415744), (82, 3060093480899530098475008), (83, 4873482210321473860534272), (4, 9671406556917033397649408)] mixed (by kernel_rfl) rfl rfl) | (refine W.condA (ht := fun hb => ?_) (hf := fun hb => ?_) <;> (try simp at hb) <;> (try (exfalso; omega))))
  all_goals exact Fin.ret ResL.auto
theorem rightE_a {op : Int} (h0 : ¬ op = 0) (h1 : ¬ (op = 1 ∨ op = 2 ∨ op = 3)) (h2 : ¬ (op = 16 ∨ op = 17 ∨ op = 18))
    {d : Nat} {n u : Int} {s : Str} {l : List Exp} (hs : s.length ≤ 9223372036854775807) (hl : l.length ≤ 9223372036854775807) (hlen : (l.length : Int) = opsF op)
    (hdc : (((d + 1 : Nat) : Int)) ≠ 0) (hdb : (d : Int) ≤ 100) (ih : ∀ x ∈ l, ACalls Tryz.prog 55 [aE x, cI (((d + 1 : Nat) : Int) - 1)] (.pv (cB (rightF d x)))) (cl : ∀ x ∈ l, ACalls Tryz.prog 84 [aE x, .one (.ptr [.int .i64 ((d + 1 : Nat) : Int)])] (.pv (cB (!rightF d x))))
    (hC : (decide (n = 0) && decide (u = 0) && decide (s = E0)) = false) : ACalls Tryz.prog 55 [.agg [.int .i64 op, .int .i64 n, .int .i64 u, .str s, .sl (l.map encX)], cI ((d + 1 : Nat) : Int)] (.pv (cB false)) := by
  refine ACalls.of_W (qs := [cB false]) [4] 104 Tryz.func55 (by kernel_rfl) rfl rfl rfl fun G => ?_
  refine W.initA (hw := ?_)
  repeat' (first | ((first | apply U_ | (apply Ug_; exact rfl; exact rfl) | (apply Ugq_; exact rfl; exact rfl) | apply Lex.u | (apply Lex.g; exact rfl; exact rfl) | (apply Lex.gq; exact rfl; exact rfl)); (first | (apply Q_litD TYok; (repeat (first | exact EvR.nil | apply EvR.cons Ev.auto)); exact rfl; exact rfl; exact rfl; exact rfl; exact rfl; exact rfl) | exact QX.B TYok | exact QX.Len TYok | exact QX.Idx TYok | exact QX.Fun TYok | exact QCl (operands_ok op)); exact rfl) | refine SX.Lit TYok (h := ?_) | refine SX.Box TYok (h := ?_) | refine SC ?_ | (apply S_isnil TYok; exact rfl; exact rfl; exact rfl; exact Ev.auto; intro bn hnil) | (apply RG.gT; exact rfl; exact rfl; (first | assumption | decide)) | (apply RG.gF; exact rfl; exact rfl; (first | assumption | decide | (rw [ne_eq, Bool.not_eq_true]; assumption) | (rw [ne_eq, Bool.not_eq_false]; assumption)); exact rfl) | (apply W.draw2 (id := 1) [0, 1, 3, 7, 15, 31, 7, 71, 199, 511, 1023] [[3], [6], [7], [2, 8], [9, 8], [10, 8], [2, 8], [12, 8], [13, 8], [11, 14, 8], [8, 15]] 11 [(6, 8), (7, 64), (8, 128), (9, 260), (10, 768), (11, 1280), (12, 260), (13, 4352), (14, 8448), (15, 18688), (16, 33024)] mixed (by kernel_rfl) rfl rfl) | (apply W.draw2 (id := 16) [0, 1, 3, 7, 15, 31, 63, 127, 255, 511, 1023, 2047, 4095, 8191, 16383, 32767, 65535, 131071, 262143, 32767, 557055, 2097151, 4194303, 8388607] [[2], [61], [62], [63], [2, 64], [65, 64], [66, 64], [64, 67], [68], [2, 69], [70, 69], [71, 69], [72, 69], [69, 73], [74], [2, 75], [76, 75], [77, 75], [78, 75], [3, 75], [80, 75], [79, 81, 75], [75, 82], [83]] 24 [(61, 4), (62, 2305843009213693952), (63, 4611686018427387904), (64, 9223372036854775808), (65, 18446744073709551620), (66, 55340232221128654848), (67, 92233720368547758080), (68, 166020696663385964544), (69, 295147905179352825856), (70, 590295810358705651716), (71, 1770887431076116955136), (72, 2951479051793528258560), (73, 5312662293228350865408), (74, 10035028776097996079104), (75, 18889465931478580854784), (76, 37778931862957161709572), (77, 113336795588871485128704), (78, 188894659314785808547840), (79, 340010386766614455386112), (80, 37778931862957161709576), (81, 1246704751477586336415744), (82, 3060093480899530098475008), (83, 4873482210321473860534272), (4, 9671406556917033397649408)] mixed (by kernel_rfl) rfl rfl) | (refine W.condA (ht := fun hb => ?_) (hf := fun hb => ?_) <;> (try simp at hb) <;> (try (exfalso; omega))))
  all_goals exact Fin.ret ResL.auto
theorem rightE_c {op : Int} (h0 : ¬ op = 0) (h1 : ¬ (op = 1 ∨ op = 2 ∨ op = 3)) (h2 : ¬ (op = 16 ∨ op = 17 ∨ op = 18))
    {d : Nat} {n u : Int} {s : Str} {l : List Exp} (hs : s.length ≤ 9223372036854775807) (hl : l.length ≤ 9223372036854775807) (hlen : (l.length : Int) = opsF op)
    (hdc : (((d + 1 : Nat) : Int)) ≠ 0) (hdb : (d : Int) ≤ 100) (ih : ∀ x ∈ l, ACalls Tryz.prog 55 [aE x, cI (((d + 1 : Nat) : Int) - 1)] (.pv (cB (rightF d x)))) (cl : ∀ x ∈ l, ACalls Tryz.prog 84 [aE x, .one (.ptr [.int .i64 ((d + 1 : Nat) : Int)])] (.pv (cB (!rightF d x))))
    (hC : (decide (n = 0) && decide (u = 0) && decide (s = E0)) = true) : ACalls Tryz.prog 55 [.agg [.int .i64 op, .int .i64 n, .int .i64 u, .str s, .sl (l.map encX)], cI ((d + 1 : Nat) : Int)] (.pv (cB (decide (n = 0) && decide (u = 0) && decide (s = E0) && !(l.any fun x => !rightF d x)))) := by
  refine ACalls.of_W (qs := [cB (decide (n = 0) && decide (u = 0) && decide (s = E0) && !(l.any fun x => !rightF d x))]) [4] 104 Tryz.func55 (by kernel_rfl) rfl rfl rfl fun G => ?_
  refine W.initA (hw := ?_)
  repeat' (first | ((first | apply U_ | (apply Ug_; exact rfl; exact rfl) | (apply Ugq_; exact rfl; exact rfl) | apply Lex.u | (apply Lex.g; exact rfl; exact rfl) | (apply Lex.gq; exact rfl; exact rfl)); (first | (apply Q_litD TYok; (repeat (first | exact EvR.nil | apply EvR.cons Ev.auto)); exact rfl; exact rfl; exact rfl; exact rfl; exact rfl; exact rfl) | exact QX.B TYok | exact QX.Len TYok | exact QX.Idx TYok | exact QX.Fun TYok | exact QCl (operands_ok op) | exact QCd (containsE_ok l 84 [.ptr [.int .i64 ((d + 1 : Nat) : Int)]] (fun x => !rightF d x) hl cl)); exact rfl) | refine SX.Lit TYok (h := ?_) | refine SX.Box TYok (h := ?_) | (refine S_makeFuncF (cs := [.ptr [.int .i64 ((d + 1 : Nat) : Int)]]) (EvC.cons Ev.auto EvC.nil) ?_ ?_; exact rfl) | refine SC ?_ | (apply S_isnil TYok; exact rfl; exact rfl; exact rfl; exact Ev.auto; intro bn hnil) | (apply RG.gT; exact rfl; exact rfl; (first | assumption | decide)) | (apply RG.gF; exact rfl; exact rfl; (first | assumption | decide | (rw [ne_eq, Bool.not_eq_true]; assumption) | (rw [ne_eq, Bool.not_eq_false]; assumption)); exact rfl) | (apply W.draw2 (id := 1) [0, 1, 3, 7, 15, 31, 7, 71, 199, 511, 1023] [[3], [6], [7], [2, 8], [9, 8], [10, 8], [2, 8], [12, 8], [13, 8], [11, 14, 8], [8, 15]] 11 [(6, 8), (7, 64), (8, 128), (9, 260), (10, 768), (11, 1280), (12, 260), (13, 4352), (14, 8448), (15, 18688), (16, 33024)] mixed (by kernel_rfl) rfl rfl) | (apply W.draw2 (id := 16) [0, 1, 3, 7, 15, 31, 63, 127, 255, 511, 1023, 2047, 4095, 8191, 16383, 32767, 65535, 131071, 262143, 32767, 557055, 2097151, 4194303, 8388607] [[2], [61], [62], [63], [2, 64], [65, 64], [66, 64], [64, 67], [68], [2, 69], [70, 69], [71, 69], [72, 69], [69, 73], [74], [2, 75], [76, 75], [77, 75], [78, 75], [3, 75], [80, 75], [79, 81, 75], [75, 82], [83]] 24 [(61, 4), (62, 2305843009213693952), (63, 4611686018427387904), (64, 9223372036854775808), (65, 18446744073709551620), (66, 55340232221128654848), (67, 92233720368547758080), (68, 166020696663385964544), (69, 295147905179352825856), (70, 590295810358705651716), (71, 1770887431076116955136), (72, 2951479051793528258560), (73, 5312662293228350865408), (74, 10035028776097996079104), (75, 18889465931478580854784), (76, 37778931862957161709572), (77, 113336795588871485128704), (78, 188894659314785808547840), (79, 340010386766614455386112), (80, 37778931862957161709576), (81, 1246704751477586336415744), (82, 3060093480899530098475008), (83, 4873482210321473860534272), (4, 9671406556917033397649408)] mixed (by kernel_rfl) rfl rfl) | (refine W.condA (ht := fun hb => ?_) (hf := fun hb => ?_) <;> (try simp at hb) <;> (try (exfalso; omega))))
  all_goals exact Fin.ret ResL.auto
theorem rightN_ok {op : Int} {d : Nat} {n u : Int} {s : Str} {l : List Exp} (hs : s.length ≤ 9223372036854775807) (hl : l.length ≤ 9223372036854775807) (hlen : ¬ (l.length : Int) = opsF op) (hdb : (d : Int) ≤ 101) : ACalls Tryz.prog 55 [.agg [.int .i64 op, .int .i64 n, .int .i64 u, .str s, .sl (l.map encX)], cI (d : Int)] (.pv (cB false)) := by
  refine ACalls.of_W (qs := [cB false]) [4] 104 Tryz.func55 (by kernel_rfl) rfl rfl rfl fun G => ?_
  refine W.initA (hw := ?_)
  repeat' (first | ((first | apply U_ | (apply Ug_; exact rfl; exact rfl) | (apply Ugq_; exact rfl; exact rfl) | apply Lex.u | (apply Lex.g; exact rfl; exact rfl) | (apply Lex.gq; exact rfl; exact rfl)); (first | (apply Q_litD TYok; (repeat (first | exact EvR.nil | apply EvR.cons Ev.auto)); exact rfl; exact rfl; exact rfl; exact rfl; exact rfl; exact rfl) | exact QX.B TYok | exact QX.Len TYok | exact QX.Idx TYok | exact QX.Fun TYok | exact QCl (operands_ok op)); exact rfl) | refine SX.Lit TYok (h := ?_) | refine SX.Box TYok (h := ?_) | refine SC ?_ | (apply S_isnil TYok; exact rfl; exact rfl; exact rfl; exact Ev.auto; intro bn hnil) | (apply RG.gT; exact rfl; exact rfl; (first | assumption | decide)) | (apply RG.gF; exact rfl; exact rfl; (first | assumption | decide | (rw [ne_eq, Bool.not_eq_true]; assumption) | (rw [ne_eq, Bool.not_eq_false]; assumption)); exact rfl) | (apply W.draw2 (id := 1) [0, 1, 3, 7, 15, 31, 7, 71, 199, 511, 1023] [[3], [6], [7], [2, 8], [9, 8], [10, 8], [2, 8], [12, 8], [13, 8], [11, 14, 8], [8, 15]] 11 [(6, 8), (7, 64), (8, 128), (9, 260), (10, 768), (11, 1280), (12, 260), (13, 4352), (14, 8448), (15, 18688), (16, 33024)] mixed (by kernel_rfl) rfl rfl) | (apply W.draw2 (id := 16) [0, 1, 3, 7, 15, 31, 63, 127, 255, 511, 1023, 2047, 4095, 8191, 16383, 32767, 65535, 131071, 262143, 32767, 557055, 2097151, 4194303, 8388607] [[2], [61], [62], [63], [2, 64], [65, 64], [66, 64], [64, 67], [68], [2, 69], [70, 69], [71, 69], [72, 69], [69, 73], [74], [2, 75], [76, 75], [77, 75], [78, 75], [3, 75], [80, 75], [79, 81, 75], [75, 82], [83]] 24 [(61, 4), (62, 2305843009213693952), (63, 4611686018427387904), (64, 9223372036854775808), (65, 18446744073709551620), (66, 55340232221128654848), (67, 92233720368547758080), (68, 166020696663385964544), (69, 295147905179352825856), (70, 590295810358705651716), (71, 1770887431076116955136), (72, 2951479051793528258560), (73, 5312662293228350865408), (74, 10035028776097996079104), (75, 18889465931478580854784), (76, 37778931862957161709572), (77, 113336795588871485128704), (78, 188894659314785808547840), (79, 340010386766614455386112), (80, 37778931862957161709576), (81, 1246704751477586336415744), (82, 3060093480899530098475008), (83, 4873482210321473860534272), (4, 9671406556917033397649408)] mixed (by kernel_rfl) rfl rfl) | (refine W.condA (ht := fun hb => ?_) (hf := fun hb => ?_) <;> (try simp at hb) <;> (try (exfalso; omega))))
  all_goals exact Fin.ret ResL.auto
theorem right00_ok {op : Int} {n u : Int} {s : Str} {l : List Exp} (hs : s.length ≤ 9223372036854775807) (hl : l.length ≤ 9223372036854775807) : ACalls Tryz.prog 55 [.agg [.int .i64 op, .int .i64 n, .int .i64 u, .str s, .sl (l.map encX)], cI ((0 : Nat) : Int)] (.pv (cB false)) := by
  refine ACalls.of_W (qs := [cB false]) [4] 104 Tryz.func55 (by kernel_rfl) rfl rfl rfl fun G => ?_
  refine W.initA (hw := ?_)
  repeat' (first | ((first | apply U_ | (apply Ug_; exact rfl; exact rfl) | (apply Ugq_; exact rfl; exact rfl) | apply Lex.u | (apply Lex.g; exact rfl; exact rfl) | (apply Lex.gq; exact rfl; exact rfl)); (first | (apply Q_litD TYok; (repeat (first | exact EvR.nil | apply EvR.cons Ev.auto)); exact rfl; exact rfl; exact rfl; exact rfl; exact rfl; exact rfl) | exact QX.B TYok | exact QX.Len TYok | exact QX.Idx TYok | exact QX.Fun TYok | exact QCl (operands_ok op)); exact rfl) | refine SX.Lit TYok (h := ?_) | refine SX.Box TYok (h := ?_) | refine SC ?_ | (apply S_isnil TYok; exact rfl; exact rfl; exact rfl; exact Ev.auto; intro bn hnil) | (apply RG.gT; exact rfl; exact rfl; (first | assumption | decide)) | (apply RG.gF; exact rfl; exact rfl; (first | assumption | decide | (rw [ne_eq, Bool.not_eq_true]; assumption) | (rw [ne_eq, Bool.not_eq_false]; assumption)); exact rfl) | (apply W.draw2 (id := 1) [0, 1, 3, 7, 15, 31, 7, 71, 199, 511, 1023] [[3], [6], [7], [2, 8], [9, 8], [10, 8], [2, 8], [12, 8], [13, 8], [11, 14, 8], [8, 15]] 11 [(6, 8), (7, 64), (8, 128), (9, 260), (10, 768), (11, 1280), (12, 260), (13, 4352), (14, 8448), (15, 18688), (16, 33024)] mixed (by kernel_rfl) rfl rfl) | (apply W.draw2 (id := 16) [0, 1, 3, 7, 15, 31, 63, 127, 255, 511, 1023, 2047, 4095, 8191, 16383, 32767, 65535, 131071, 262143, 32767, 557055, 2097151, 4194303, 8388607] [[2], [61], [62], [63], [2, 64], [65, 64], [66, 64], [64, 67], [68], [2, 69], [70, 69], [71, 69], [72, 69], [69, 73], [74], [2, 75], [76, 75], [77, 75], [78, 75], [3, 75], [80, 75], [79, 81, 75], [75, 82], [83]] 24 [(61, 4), (62, 2305843009213693952), (63, 4611686018427387904), (64, 9223372036854775808), (65, 18446744073709551620), (66, 55340232221128654848), (67, 92233720368547758080), (68, 166020696663385964544), (69, 295147905179352825856), (70, 590295810358705651716), (71, 1770887431076116955136), (72, 2951479051793528258560), (73, 5312662293228350865408), (74, 10035028776097996079104), (75, 18889465931478580854784), (76, 37778931862957161709572), (77, 113336795588871485128704), (78, 188894659314785808547840), (79, 340010386766614455386112), (80, 37778931862957161709576), (81, 1246704751477586336415744), (82, 3060093480899530098475008), (83, 4873482210321473860534272), (4, 9671406556917033397649408)] mixed (by kernel_rfl) rfl rfl) | (refine W.condA (ht := fun hb => ?_) (hf := fun hb => ?_) <;> (try simp at hb) <;> (try (exfalso; omega))))
  all_goals exact Fin.ret ResL.auto
theorem right1c_ok (d : Nat) (x : Exp) (ih : ACalls Tryz.prog 55 [aE x, cI (((d + 1 : Nat) : Int) - 1)] (.pv (cB (rightF d x)))) (hdb : (d : Int) ≤ 100) : ACalls Tryz.prog 84 [aE x, .one (.ptr [.int .i64 ((d + 1 : Nat) : Int)])] (.pv (cB (!rightF d x))) := by
  refine ACalls.of_W (qs := [cB (!rightF d x)]) [3] 9 Tryz.func84 (by kernel_rfl) rfl rfl rfl fun G => ?_
  refine W.initA (hw := ?_)
  repeat' (first | ((first | apply U_ | apply Lex.u | (apply Lex.g; exact rfl; exact rfl) | (apply Lex.gq; exact rfl; exact rfl)); (first | (apply Q_litD TYok; (repeat (first | exact EvR.nil | apply EvR.cons Ev.auto)); exact rfl; exact rfl; exact rfl; exact rfl; exact rfl; exact rfl) | exact QX.B TYok | exact QCl (ih)); exact rfl) | refine SX.Box TYok (h := ?_) | refine SC ?_ | (refine W.condA (ht := fun hb => ?_) (hf := fun hb => ?_) <;> (try simp at hb) <;> (try (exfalso; omega))))
  exact Fin.ret ResL.auto
end Go.Proofs.YtjedkgogjehigaaGreat
end
section
set_option linter.unusedVariables false
set_option linter.unusedSimpArgs false
set_option maxHeartbeats 8000000
set_option linter.unusedSectionVars false
namespace Go.Proofs.YtjedkgogjehigaaGreat
open Lf Go
attribute [local irreducible] PureOp EffOp Ev RG W Then InBlock Lf.Fin nth App InitE Pick SubE EvL EvD EvP EvR ResL Lf.Lex SubR SubBR RA RAll EvC FinO FinM ResM ResD FinS val pw digs trimL
theorem right16_all
    {d : Nat} {n u : Int} {s : Str} {l : List Exp} (hs : s.length ≤ 9223372036854775807) (hl : l.length ≤ 9223372036854775807) (hlen : (l.length : Int) = opsF 16)
    (hdc : (((d + 1 : Nat) : Int)) ≠ 0) (hdb : (d : Int) ≤ 100) (ih : ∀ x ∈ l, ACalls Tryz.prog 55 [aE x, cI (((d + 1 : Nat) : Int) - 1)] (.pv (cB (rightF d x)))) : ACalls Tryz.prog 55 [.agg [.int .i64 16, .int .i64 n, .int .i64 u, .str s, .sl (l.map encX)], cI ((d + 1 : Nat) : Int)] (.pv (cB (decide (u = 0) && decide (s = E0) && [n].all (inF 1 1000) && rightF d (nth l 0)))) := by
  have hl1 : 0 < l.length := by
    have : opsF 16 = 1 := by decide
    omega
  have h1 := in_ok 1 1000 [n] (by simp)
  have h2 := ih (nth l 0) (nth_mem hl1)
  generalize [n].all (inF 1 1000) = b1 at *
  generalize rightF d (nth l 0) = b2 at *
  refine ACalls.of_W (qs := [cB (decide (u = 0) && decide (s = E0) && b1 && b2)]) [4] 104 Tryz.func55 (by kernel_rfl) rfl rfl rfl fun G => ?_
  refine W.initA (hw := ?_)
  repeat' (first | ((first | apply U_ | (apply Ug_; exact rfl; exact rfl) | (apply Ugq_; exact rfl; exact rfl) | apply Lex.u | (apply Lex.g; exact rfl; exact rfl) | (apply Lex.gq; exact rfl; exact rfl)); (first | (apply Q_litD TYok; (repeat (first | exact EvR.nil | apply EvR.cons Ev.auto)); exact rfl; exact rfl; exact rfl; exact rfl; exact rfl; exact rfl) | (apply Q_litDp TYok; (intro hp; apply EvR.cons Ev.auto; (repeat (first | exact EvR.nil | apply EvR.cons Ev.auto))); exact rfl; exact rfl; exact rfl; exact rfl; exact rfl; exact rfl) | exact QX.B TYok | exact QX.Len TYok | exact QX.Idx TYok | exact QX.Fun TYok | exact QCl (operands_ok 16) | exact QCd (h1) | exact QCd (h2)); exact rfl) | refine SX.Lit TYok (h := ?_) | refine SX.Box TYok (h := ?_) | refine SC ?_ | (apply S_isnil TYok; exact rfl; exact rfl; exact rfl; exact Ev.auto; intro bn hnil) | (apply RG.gT; exact rfl; exact rfl; (first | assumption | decide)) | (apply RG.gF; exact rfl; exact rfl; (first | assumption | decide | (rw [ne_eq, Bool.not_eq_true]; assumption) | (rw [ne_eq, Bool.not_eq_false]; assumption)); exact rfl) | (apply W.draw2 (id := 1) [0, 1, 3, 7, 15, 31, 7, 71, 199, 511, 1023] [[3], [6], [7], [2, 8], [9, 8], [10, 8], [2, 8], [12, 8], [13, 8], [11, 14, 8], [8, 15]] 11 [(6, 8), (7, 64), (8, 128), (9, 260), (10, 768), (11, 1280), (12, 260), (13, 4352), (14, 8448), (15, 18688), (16, 33024)] mixed (by kernel_rfl) rfl rfl) | (apply W.draw2 (id := 16) [0, 1, 3, 7, 15, 31, 63, 127, 255, 511, 1023, 2047, 4095, 8191, 16383, 32767, 65535, 131071, 262143, 32767, 557055, 2097151, 4194303, 8388607] [[2], [61], [62], [63], [2, 64], [65, 64], [66, 64], [64, 67], [68], [2, 69], [70, 69], [71, 69], [72, 69], [69, 73], [74], [2, 75], [76, 75], [77, 75], [78, 75], [3, 75], [80, 75], [79, 81, 75], [75, 82], [83]] 24 [(61, 4), (62, 2305843009213693952), (63, 4611686018427387904), (64, 9223372036854775808), (65, 18446744073709551620), (66, 55340232221128654848), (67, 92233720368547758080), (68, 166020696663385964544), (69, 295147905179352825856), (70, 590295810358705651716), (71, 1770887431076116955136), (72, 2951479051793528258560), (73, 5312662293228350865408), (74, 10035028776097996079104), (75, 18889465931478580854784), (76, 37778931862957161709572), (77, 113336795588871485128704), (78, 188894659314785808547840), (79, 340010386766614455386112), (80, 37778931862957161709576), (81, 1246704751477586336415744), (82, 3060093480899530098475008), (83, 4873482210321473860534272), (4, 9671406556917033397649408)] mixed (by kernel_rfl) rfl rfl) | (refine W.condA (ht := fun hb => ?_) (hf := fun hb => ?_) <;> (try simp at hb) <;> (try (exfalso; omega))))
  all_goals exact Fin.ret ResL.auto
theorem right16_a
    {d : Nat} {n u : Int} {s : Str} {l : List Exp} (hs : s.length ≤ 9223372036854775807) (hl : l.length ≤ 9223372036854775807) (hlen : (l.length : Int) = opsF 16)
    (hdc : (((d + 1 : Nat) : Int)) ≠ 0) (hdb : (d : Int) ≤ 100) (ih : ∀ x ∈ l, ACalls Tryz.prog 55 [aE x, cI (((d + 1 : Nat) : Int) - 1)] (.pv (cB (rightF d x)))) (cl : ∀ x ∈ l, ACalls Tryz.prog 84 [aE x, .one (.ptr [.int .i64 ((d + 1 : Nat) : Int)])] (.pv (cB (!rightF d x))))
    (hA : (decide (u = 0) && decide (s = E0)) = false) : ACalls Tryz.prog 55 [.agg [.int .i64 16, .int .i64 n, .int .i64 u, .str s, .sl (l.map encX)], cI ((d + 1 : Nat) : Int)] (.pv (cB false)) := by
  have := right16_all hs hl hlen hdc hdb ih (n := n) (u := u)
  rw [hA, Bool.false_and, Bool.false_and] at this
  exact this
theorem right16_b
    {d : Nat} {n u : Int} {s : Str} {l : List Exp} (hs : s.length ≤ 9223372036854775807) (hl : l.length ≤ 9223372036854775807) (hlen : (l.length : Int) = opsF 16)
    (hdc : (((d + 1 : Nat) : Int)) ≠ 0) (hdb : (d : Int) ≤ 100) (ih : ∀ x ∈ l, ACalls Tryz.prog 55 [aE x, cI (((d + 1 : Nat) : Int) - 1)] (.pv (cB (rightF d x)))) (cl : ∀ x ∈ l, ACalls Tryz.prog 84 [aE x, .one (.ptr [.int .i64 ((d + 1 : Nat) : Int)])] (.pv (cB (!rightF d x))))
    (hA : (decide (u = 0) && decide (s = E0)) = true) (hB : [n].all (inF 1 1000) = false) : ACalls Tryz.prog 55 [.agg [.int .i64 16, .int .i64 n, .int .i64 u, .str s, .sl (l.map encX)], cI ((d + 1 : Nat) : Int)] (.pv (cB false)) := by
  have := right16_all hs hl hlen hdc hdb ih (n := n) (u := u)
  rw [hA, hB, Bool.true_and, Bool.false_and] at this
  exact this
theorem right16_c
    {d : Nat} {n u : Int} {s : Str} {l : List Exp} (hs : s.length ≤ 9223372036854775807) (hl : l.length ≤ 9223372036854775807) (hlen : (l.length : Int) = opsF 16)
    (hdc : (((d + 1 : Nat) : Int)) ≠ 0) (hdb : (d : Int) ≤ 100) (ih : ∀ x ∈ l, ACalls Tryz.prog 55 [aE x, cI (((d + 1 : Nat) : Int) - 1)] (.pv (cB (rightF d x)))) (cl : ∀ x ∈ l, ACalls Tryz.prog 84 [aE x, .one (.ptr [.int .i64 ((d + 1 : Nat) : Int)])] (.pv (cB (!rightF d x))))
    (hl1 : 0 < l.length) (hA : (decide (u = 0) && decide (s = E0)) = true) (hB : [n].all (inF 1 1000) = true) : ACalls Tryz.prog 55 [.agg [.int .i64 16, .int .i64 n, .int .i64 u, .str s, .sl (l.map encX)], cI ((d + 1 : Nat) : Int)] (.pv (cB (decide (u = 0) && decide (s = E0) && [n].all (inF 1 1000) && rightF d (nth l 0)))) :=
  right16_all hs hl hlen hdc hdb ih
end Go.Proofs.YtjedkgogjehigaaGreat
end
section
set_option linter.unusedVariables false
set_option linter.unusedSimpArgs false
set_option maxHeartbeats 8000000
set_option linter.unusedSectionVars false
namespace Go.Proofs.YtjedkgogjehigaaGreat
open Lf Go
attribute [local irreducible] PureOp EffOp Ev RG W Then InBlock Lf.Fin nth App InitE Pick SubE EvL EvD EvP EvR ResL Lf.Lex SubR SubBR RA RAll EvC FinO FinM ResM ResD FinS val pw digs trimL
theorem right17_all
    {d : Nat} {n u : Int} {s : Str} {l : List Exp} (hs : s.length ≤ 9223372036854775807) (hl : l.length ≤ 9223372036854775807) (hlen : (l.length : Int) = opsF 17)
    (hdc : (((d + 1 : Nat) : Int)) ≠ 0) (hdb : (d : Int) ≤ 100) (ih : ∀ x ∈ l, ACalls Tryz.prog 55 [aE x, cI (((d + 1 : Nat) : Int) - 1)] (.pv (cB (rightF d x)))) : ACalls Tryz.prog 55 [.agg [.int .i64 17, .int .i64 n, .int .i64 u, .str s, .sl (l.map encX)], cI ((d + 1 : Nat) : Int)] (.pv (cB (decide (u = 0) && decide (s = E0) && [n].all (inF 1 1000) && rightF d (nth l 0)))) := by
  have hl1 : 0 < l.length := by
    have : opsF 17 = 1 := by decide
    omega
  have h1 := in_ok 1 1000 [n] (by simp)
  have h2 := ih (nth l 0) (nth_mem hl1)
  generalize [n].all (inF 1 1000) = b1 at *
  generalize rightF d (nth l 0) = b2 at *
  refine ACalls.of_W (qs := [cB (decide (u = 0) && decide (s = E0) && b1 && b2)]) [4] 104 Tryz.func55 (by kernel_rfl) rfl rfl rfl fun G => ?_
  refine W.initA (hw := ?_)
  repeat' (first | ((first | apply U_ | (apply Ug_; exact rfl; exact rfl) | (apply Ugq_; exact rfl; exact rfl) | apply Lex.u | (apply Lex.g; exact rfl; exact rfl) | (apply Lex.gq; exact rfl; exact rfl)); (first | (apply Q_litD TYok; (repeat (first | exact EvR.nil | apply EvR.cons Ev.auto)); exact rfl; exact rfl; exact rfl; exact rfl; exact rfl; exact rfl) | (apply Q_litDp TYok; (intro hp; apply EvR.cons Ev.auto; (repeat (first | exact EvR.nil | apply EvR.cons Ev.auto))); exact rfl; exact rfl; exact rfl; exact rfl; exact rfl; exact rfl) | exact QX.B TYok | exact QX.Len TYok | exact QX.Idx TYok | exact QX.Fun TYok | exact QCl (operands_ok 17) | exact QCd (h1) | exact QCd (h2)); exact rfl) | refine SX.Lit TYok (h := ?_) | refine SX.Box TYok (h := ?_) | refine SC ?_ | (apply S_isnil TYok; exact rfl; exact rfl; exact rfl; exact Ev.auto; intro bn hnil) | (apply RG.gT; exact rfl; exact rfl; (first | assumption | decide)) | (apply RG.gF; exact rfl; exact rfl; (first | assumption | decide | (rw [ne_eq, Bool.not_eq_true]; assumption) | (rw [ne_eq, Bool.not_eq_false]; assumption)); exact rfl) | (apply W.draw2 (id := 1) [0, 1, 3, 7, 15, 31, 7, 71, 199, 511, 1023] [[3], [6], [7], [2, 8], [9, 8], [10, 8], [2, 8], [12, 8], [13, 8], [11, 14, 8], [8, 15]] 11 [(6, 8), (7, 64), (8, 128), (9, 260), (10, 768), (11, 1280), (12, 260), (13, 4352), (14, 8448), (15, 18688), (16, 33024)] mixed (by kernel_rfl) rfl rfl) | (apply W.draw2 (id := 16) [0, 1, 3, 7, 15, 31, 63, 127, 255, 511, 1023, 2047, 4095, 8191, 16383, 32767, 65535, 131071, 262143, 32767, 557055, 2097151, 4194303, 8388607] [[2], [61], [62], [63], [2, 64], [65, 64], [66, 64], [64, 67], [68], [2, 69], [70, 69], [71, 69], [72, 69], [69, 73], [74], [2, 75], [76, 75], [77, 75], [78, 75], [3, 75], [80, 75], [79, 81, 75], [75, 82], [83]] 24 [(61, 4), (62, 2305843009213693952), (63, 4611686018427387904), (64, 9223372036854775808), (65, 18446744073709551620), (66, 55340232221128654848), (67, 92233720368547758080), (68, 166020696663385964544), (69, 295147905179352825856), (70, 590295810358705651716), (71, 1770887431076116955136), (72, 2951479051793528258560), (73, 5312662293228350865408), (74, 10035028776097996079104), (75, 18889465931478580854784), (76, 37778931862957161709572), (77, 113336795588871485128704), (78, 188894659314785808547840), (79, 340010386766614455386112), (80, 37778931862957161709576), (81, 1246704751477586336415744), (82, 3060093480899530098475008), (83, 4873482210321473860534272), (4, 9671406556917033397649408)] mixed (by kernel_rfl) rfl rfl) | (refine W.condA (ht := fun hb => ?_) (hf := fun hb => ?_) <;> (try simp at hb) <;> (try (exfalso; omega))))
  all_goals exact Fin.ret ResL.auto
theorem right17_a
    {d : Nat} {n u : Int} {s : Str} {l : List Exp} (hs : s.length ≤ 9223372036854775807) (hl : l.length ≤ 9223372036854775807) (hlen : (l.length : Int) = opsF 17)
    (hdc : (((d + 1 : Nat) : Int)) ≠ 0) (hdb : (d : Int) ≤ 100) (ih : ∀ x ∈ l, ACalls Tryz.prog 55 [aE x, cI (((d + 1 : Nat) : Int) - 1)] (.pv (cB (rightF d x)))) (cl : ∀ x ∈ l, ACalls Tryz.prog 84 [aE x, .one (.ptr [.int .i64 ((d + 1 : Nat) : Int)])] (.pv (cB (!rightF d x))))
    (hA : (decide (u = 0) && decide (s = E0)) = false) : ACalls Tryz.prog 55 [.agg [.int .i64 17, .int .i64 n, .int .i64 u, .str s, .sl (l.map encX)], cI ((d + 1 : Nat) : Int)] (.pv (cB false)) := by
  have := right17_all hs hl hlen hdc hdb ih (n := n) (u := u)
  rw [hA, Bool.false_and, Bool.false_and] at this
  exact this
theorem right17_b
    {d : Nat} {n u : Int} {s : Str} {l : List Exp} (hs : s.length ≤ 9223372036854775807) (hl : l.length ≤ 9223372036854775807) (hlen : (l.length : Int) = opsF 17)
    (hdc : (((d + 1 : Nat) : Int)) ≠ 0) (hdb : (d : Int) ≤ 100) (ih : ∀ x ∈ l, ACalls Tryz.prog 55 [aE x, cI (((d + 1 : Nat) : Int) - 1)] (.pv (cB (rightF d x)))) (cl : ∀ x ∈ l, ACalls Tryz.prog 84 [aE x, .one (.ptr [.int .i64 ((d + 1 : Nat) : Int)])] (.pv (cB (!rightF d x))))
    (hA : (decide (u = 0) && decide (s = E0)) = true) (hB : [n].all (inF 1 1000) = false) : ACalls Tryz.prog 55 [.agg [.int .i64 17, .int .i64 n, .int .i64 u, .str s, .sl (l.map encX)], cI ((d + 1 : Nat) : Int)] (.pv (cB false)) := by
  have := right17_all hs hl hlen hdc hdb ih (n := n) (u := u)
  rw [hA, hB, Bool.true_and, Bool.false_and] at this
  exact this
theorem right17_c
    {d : Nat} {n u : Int} {s : Str} {l : List Exp} (hs : s.length ≤ 9223372036854775807) (hl : l.length ≤ 9223372036854775807) (hlen : (l.length : Int) = opsF 17)
    (hdc : (((d + 1 : Nat) : Int)) ≠ 0) (hdb : (d : Int) ≤ 100) (ih : ∀ x ∈ l, ACalls Tryz.prog 55 [aE x, cI (((d + 1 : Nat) : Int) - 1)] (.pv (cB (rightF d x)))) (cl : ∀ x ∈ l, ACalls Tryz.prog 84 [aE x, .one (.ptr [.int .i64 ((d + 1 : Nat) : Int)])] (.pv (cB (!rightF d x))))
    (hl1 : 0 < l.length) (hA : (decide (u = 0) && decide (s = E0)) = true) (hB : [n].all (inF 1 1000) = true) : ACalls Tryz.prog 55 [.agg [.int .i64 17, .int .i64 n, .int .i64 u, .str s, .sl (l.map encX)], cI ((d + 1 : Nat) : Int)] (.pv (cB (decide (u = 0) && decide (s = E0) && [n].all (inF 1 1000) && rightF d (nth l 0)))) :=
  right17_all hs hl hlen hdc hdb ih
end Go.Proofs.YtjedkgogjehigaaGreat
end
section
set_option linter.unusedVariables false
set_option linter.unusedSimpArgs false
set_option maxHeartbeats 8000000
set_option linter.unusedSectionVars false
namespace Go.Proofs.YtjedkgogjehigaaGreat
open Lf Go
attribute [local irreducible] PureOp EffOp Ev RG W Then InBlock Lf.Fin nth App InitE Pick SubE EvL EvD EvP EvR ResL Lf.Lex SubR SubBR RA RAll EvC FinO FinM ResM ResD FinS val pw digs trimL
theorem right18_all
    {d : Nat} {n u : Int} {s : Str} {l : List Exp} (hs : s.length ≤ 9223372036854775807) (hl : l.length ≤ 9223372036854775807) (hlen : (l.length : Int) = opsF 18)
    (hdc : (((d + 1 : Nat) : Int)) ≠ 0) (hdb : (d : Int) ≤ 100) (ih : ∀ x ∈ l, ACalls Tryz.prog 55 [aE x, cI (((d + 1 : Nat) : Int) - 1)] (.pv (cB (rightF d x)))) : ACalls Tryz.prog 55 [.agg [.int .i64 18, .int .i64 n, .int .i64 u, .str s, .sl (l.map encX)], cI ((d + 1 : Nat) : Int)] (.pv (cB (decide (u = 0) && decide (s = E0) && [n].all (inF 1 1000) && rightF d (nth l 0)))) := by
  have hl1 : 0 < l.length := by
    have : opsF 18 = 1 := by decide
    omega
  have h1 := in_ok 1 1000 [n] (by simp)
  have h2 := ih (nth l 0) (nth_mem hl1)
  generalize [n].all (inF 1 1000) = b1 at *
  generalize rightF d (nth l 0) = b2 at *
  refine ACalls.of_W (qs := [cB (decide (u = 0) && decide (s = E0) && b1 && b2)]) [4] 104 Tryz.func55 (by kernel_rfl) rfl rfl rfl fun G => ?_
  refine W.initA (hw := ?_)
  repeat' (first | ((first | apply U_ | (apply Ug_; exact rfl; exact rfl) | (apply Ugq_; exact rfl; exact rfl) | apply Lex.u | (apply Lex.g; exact rfl; exact rfl) | (apply Lex.gq; exact rfl; exact rfl)); (first | (apply Q_litD TYok; (repeat (first | exact EvR.nil | apply EvR.cons Ev.auto)); exact rfl; exact rfl; exact rfl; exact rfl; exact rfl; exact rfl) | (apply Q_litDp TYok; (intro hp; apply EvR.cons Ev.auto; (repeat (first | exact EvR.nil | apply EvR.cons Ev.auto))); exact rfl; exact rfl; exact rfl; exact rfl; exact rfl; exact rfl) | exact QX.B TYok | exact QX.Len TYok | exact QX.Idx TYok | exact QX.Fun TYok | exact QCl (operands_ok 18) | exact QCd (h1) | exact QCd (h2)); exact rfl) | refine SX.Lit TYok (h := ?_) | refine SX.Box TYok (h := ?_) | refine SC ?_ | (apply S_isnil TYok; exact rfl; exact rfl; exact rfl; exact Ev.auto; intro bn hnil) | (apply RG.gT; exact rfl; exact rfl; (first | assumption | decide)) | (apply RG.gF; exact rfl; exact rfl; (first | assumption | decide | (rw [ne_eq, Bool.not_eq_true]; assumption) | (rw [ne_eq, Bool.not_eq_false]; assumption)); exact rfl) | (apply W.draw2 (id := 1) [0, 1, 3, 7, 15, 31, 7, 71, 199, 511, 1023] [[3], [6], [7], [2, 8], [9, 8], [10, 8], [2, 8], [12, 8], [13, 8], [11, 14, 8], [8, 15]] 11 [(6, 8), (7, 64), (8, 128), (9, 260), (10, 768), (11, 1280), (12, 260), (13, 4352), (14, 8448), (15, 18688), (16, 33024)] mixed (by kernel_rfl) rfl rfl) | (apply W.draw2 (id := 16) [0, 1, 3, 7, 15, 31, 63, 127, 255, 511, 1023, 2047, 4095, 8191, 16383, 32767, 65535, 131071, 262143, 32767, 557055, 2097151, 4194303, 8388607] [[2], [61], [62], [63], [2, 64], [65, 64], [66, 64], [64, 67], [68], [2, 69], [70, 69], [71, 69], [72, 69], [69, 73], [74], [2, 75], [76, 75], [77, 75], [78, 75], [3, 75], [80, 75], [79, 81, 75], [75, 82], [83]] 24 [(61, 4), (62, 2305843009213693952), (63, 4611686018427387904), (64, 9223372036854775808), (65, 18446744073709551620), (66, 55340232221128654848), (67, 92233720368547758080), (68, 166020696663385964544), (69, 295147905179352825856), (70, 590295810358705651716), (71, 1770887431076116955136), (72, 2951479051793528258560), (73, 5312662293228350865408), (74, 10035028776097996079104), (75, 18889465931478580854784), (76, 37778931862957161709572), (77, 113336795588871485128704), (78, 188894659314785808547840), (79, 340010386766614455386112), (80, 37778931862957161709576), (81, 1246704751477586336415744), (82, 3060093480899530098475008), (83, 4873482210321473860534272), (4, 9671406556917033397649408)] mixed (by kernel_rfl) rfl rfl) | (refine W.condA (ht := fun hb => ?_) (hf := fun hb => ?_) <;> (try simp at hb) <;> (try (exfalso; omega))))
  all_goals exact Fin.ret ResL.auto
theorem right18_a
    {d : Nat} {n u : Int} {s : Str} {l : List Exp} (hs : s.length ≤ 9223372036854775807) (hl : l.length ≤ 9223372036854775807) (hlen : (l.length : Int) = opsF 18)
    (hdc : (((d + 1 : Nat) : Int)) ≠ 0) (hdb : (d : Int) ≤ 100) (ih : ∀ x ∈ l, ACalls Tryz.prog 55 [aE x, cI (((d + 1 : Nat) : Int) - 1)] (.pv (cB (rightF d x)))) (cl : ∀ x ∈ l, ACalls Tryz.prog 84 [aE x, .one (.ptr [.int .i64 ((d + 1 : Nat) : Int)])] (.pv (cB (!rightF d x))))
    (hA : (decide (u = 0) && decide (s = E0)) = false) : ACalls Tryz.prog 55 [.agg [.int .i64 18, .int .i64 n, .int .i64 u, .str s, .sl (l.map encX)], cI ((d + 1 : Nat) : Int)] (.pv (cB false)) := by
  have := right18_all hs hl hlen hdc hdb ih (n := n) (u := u)
  rw [hA, Bool.false_and, Bool.false_and] at this
  exact this
theorem right18_b
    {d : Nat} {n u : Int} {s : Str} {l : List Exp} (hs : s.length ≤ 9223372036854775807) (hl : l.length ≤ 9223372036854775807) (hlen : (l.length : Int) = opsF 18)
    (hdc : (((d + 1 : Nat) : Int)) ≠ 0) (hdb : (d : Int) ≤ 100) (ih : ∀ x ∈ l, ACalls Tryz.prog 55 [aE x, cI (((d + 1 : Nat) : Int) - 1)] (.pv (cB (rightF d x)))) (cl : ∀ x ∈ l, ACalls Tryz.prog 84 [aE x, .one (.ptr [.int .i64 ((d + 1 : Nat) : Int)])] (.pv (cB (!rightF d x))))
    (hA : (decide (u = 0) && decide (s = E0)) = true) (hB : [n].all (inF 1 1000) = false) : ACalls Tryz.prog 55 [.agg [.int .i64 18, .int .i64 n, .int .i64 u, .str s, .sl (l.map encX)], cI ((d + 1 : Nat) : Int)] (.pv (cB false)) := by
  have := right18_all hs hl hlen hdc hdb ih (n := n) (u := u)
  rw [hA, hB, Bool.true_and, Bool.false_and] at this
  exact this
theorem right18_c
    {d : Nat} {n u : Int} {s : Str} {l : List Exp} (hs : s.length ≤ 9223372036854775807) (hl : l.length ≤ 9223372036854775807) (hlen : (l.length : Int) = opsF 18)
    (hdc : (((d + 1 : Nat) : Int)) ≠ 0) (hdb : (d : Int) ≤ 100) (ih : ∀ x ∈ l, ACalls Tryz.prog 55 [aE x, cI (((d + 1 : Nat) : Int) - 1)] (.pv (cB (rightF d x)))) (cl : ∀ x ∈ l, ACalls Tryz.prog 84 [aE x, .one (.ptr [.int .i64 ((d + 1 : Nat) : Int)])] (.pv (cB (!rightF d x))))
    (hl1 : 0 < l.length) (hA : (decide (u = 0) && decide (s = E0)) = true) (hB : [n].all (inF 1 1000) = true) : ACalls Tryz.prog 55 [.agg [.int .i64 18, .int .i64 n, .int .i64 u, .str s, .sl (l.map encX)], cI ((d + 1 : Nat) : Int)] (.pv (cB (decide (u = 0) && decide (s = E0) && [n].all (inF 1 1000) && rightF d (nth l 0)))) :=
  right18_all hs hl hlen hdc hdb ih
end Go.Proofs.YtjedkgogjehigaaGreat
end
section
set_option linter.unusedVariables false
set_option linter.unusedSimpArgs false
set_option maxHeartbeats 8000000
set_option linter.unusedSectionVars false
namespace Go.Proofs.YtjedkgogjehigaaGreat
open Lf Go
attribute [local irreducible] PureOp EffOp Ev RG W Then InBlock Lf.Fin nth App InitE Pick SubE EvL EvD EvP EvR ResL Lf.Lex SubR SubBR RA RAll EvC FinO FinM ResM ResD FinS val pw digs trimL
theorem rightE_ok : ∀ (d : Nat) (e : Exp), d ≤ 100 → OkE e → ACalls Tryz.prog 55 [aE e, cI (d : Int)] (.pv (cB (rightF d e)))
  | 0, .mk op n u s l, _, he => by
    cases he with
    | mk hs hl h => rw [aE_mk, rightF]; exact right00_ok hs hl
  | d + 1, .mk op n u s l, hd, he => by
    cases he with
    | mk hs hl h =>
    have hdb : (d : Int) ≤ 100 := by omega
    have hdc : (((d + 1 : Nat) : Int)) ≠ 0 := by omega
    have ih : ∀ x ∈ l, ACalls Tryz.prog 55 [aE x, cI (((d + 1 : Nat) : Int) - 1)] (.pv (cB (rightF d x))) := by
      intro x hx
      rw [show (((d + 1 : Nat) : Int) - 1) = (d : Int) by omega]
      exact rightE_ok d x (by omega) (h x hx)
    have cl : ∀ x ∈ l, ACalls Tryz.prog 84 [aE x, .one (.ptr [.int .i64 ((d + 1 : Nat) : Int)])] (.pv (cB (!rightF d x))) := fun x hx => right1c_ok d x (ih x hx) hdb
    rw [aE_mk, rightF]
    by_cases hlen : (l.length : Int) = opsF op
    case neg =>
      rw [decide_eq_false hlen, Bool.false_and]
      exact rightN_ok (d := d + 1) hs hl hlen (by omega)
    rw [decide_eq_true hlen, Bool.true_and]
    have hE : ∀ b, (decide (s = E0)) = b → decide (s = []) = b := fun b h => h
    have hone : ∀ (a b x : Int), [x].all (inF a b) = inF a b x := fun a b x => by simp
    by_cases h0 : op = 0
    · subst h0
      rw [if_pos rfl]
      cases hA : decide (s = E0) with
      | false =>
        rw [Bool.false_and, Bool.false_and]
        exact right0_a hs hl hlen hdc hdb ih cl hA
      | true =>
        cases hB : [u].all (inF 0 4) with
        | false =>
          rw [← hone 0 4 u, hB, Bool.and_false, Bool.false_and]
          exact right0_b hs hl hlen hdc hdb ih cl hA hB
        | true =>
          have := right0_c hs hl hlen hdc hdb ih cl hA hB (n := n)
          rw [hA, hone, hone] at this
          exact this
    rw [if_neg h0]
    by_cases h1 : op = 1 ∨ op = 2 ∨ op = 3
    · rw [if_pos h1]
      exact right1_ok h1 hs hl hlen hdc hdb ih cl
    rw [if_neg h1]
    by_cases h2 : op = 16 ∨ op = 17 ∨ op = 18
    · rw [if_pos h2]
      have hl1 : l.length = 1 := by
        have : opsF op = 1 := by unfold opsF; rw [if_neg (by omega), if_pos (by omega)]
        omega
      have hpos : 0 < l.length := by omega
      have hall : l.all (rightF d) = rightF d (nth l 0) := by
        match l, hl1 with
        | [x], _ => simp [nth]
      rw [hall]
      have key : ∀ op : Int, (op = 16 → op = 16) := fun _ h => h
      rcases h2 with rfl | rfl | rfl
      · cases hA : (decide (u = 0) && decide (s = E0)) with
        | false =>
          have := right16_a hs hl hlen hdc hdb ih cl hA (n := n)
          rw [Bool.false_and, Bool.false_and]
          exact this
        | true =>
          cases hB : [n].all (inF 1 1000) with
          | false =>
            have := right16_b hs hl hlen hdc hdb ih cl hA hB
            rw [← hone 1 1000 n, hB, Bool.and_false, Bool.false_and]
            exact this
          | true =>
            have := right16_c hs hl hlen hdc hdb ih cl hpos hA hB
            rw [hA, hone] at this
            exact this
      · cases hA : (decide (u = 0) && decide (s = E0)) with
        | false =>
          have := right17_a hs hl hlen hdc hdb ih cl hA (n := n)
          rw [Bool.false_and, Bool.false_and]
          exact this
        | true =>
          cases hB : [n].all (inF 1 1000) with
          | false =>
            have := right17_b hs hl hlen hdc hdb ih cl hA hB
            rw [← hone 1 1000 n, hB, Bool.and_false, Bool.false_and]
            exact this
          | true =>
            have := right17_c hs hl hlen hdc hdb ih cl hpos hA hB
            rw [hA, hone] at this
            exact this
      · cases hA : (decide (u = 0) && decide (s = E0)) with
        | false =>
          have := right18_a hs hl hlen hdc hdb ih cl hA (n := n)
          rw [Bool.false_and, Bool.false_and]
          exact this
        | true =>
          cases hB : [n].all (inF 1 1000) with
          | false =>
            have := right18_b hs hl hlen hdc hdb ih cl hA hB
            rw [← hone 1 1000 n, hB, Bool.and_false, Bool.false_and]
            exact this
          | true =>
            have := right18_c hs hl hlen hdc hdb ih cl hpos hA hB
            rw [hA, hone] at this
            exact this
    rw [if_neg h2]
    have hany : l.all (rightF d) = !(l.any fun x => !rightF d x) := by
      rw [Bool.eq_iff_iff]; simp
    rw [hany]
    cases hC : (decide (n = 0) && decide (u = 0) && decide (s = E0)) with
    | false =>
      rw [Bool.false_and]
      exact rightE_a h0 h1 h2 hs hl hlen hdc hdb ih cl hC
    | true =>
      have := rightE_c h0 h1 h2 hs hl hlen hdc hdb ih cl hC
      rw [hC] at this
      exact this
end Go.Proofs.YtjedkgogjehigaaGreat
end
